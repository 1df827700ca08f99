import Derived.Test.YtgmojjclobkpjaaGreatDoorQCmp
import Derived.Test.YtgmojjclobkpjaaGreatDoorQBase
namespace Go.Proofs.YtgmojjclobkpjaaGreatDoor
set_option linter.all false
set_option maxHeartbeats 32000000
open Go.RowKit
def foundAt {α:Type} (l:List α) (k:Nat) (p:α→Bool):Bool:=match l[k]? with|some y=>p y|none=>false
theorem foundAt_lt {α:Type} {l:List α} {k:Nat} {p:α→Bool} (h:k<l.length):foundAt l k p=p l[k]:=by unfold foundAt;rw [List.getElem?_eq_getElem h]
theorem foundAt_ge {α:Type} {l:List α} {k:Nat} {p:α→Bool} (h:l.length≤k):foundAt l k p=false:=by unfold foundAt;rw [List.getElem?_eq_none h]
theorem Bin_pair (A:Option Addr) (n c k:Nat) (l:List Pr) (x:Pr) (w:World) (hln:l.length=n) (hl:l.length≤1048576) (h:Seg w 2 A (pairRows l)) (hkn:k≤l.length)
  (h1:∀ t (ht:t<l.length),t<k→cmpB l[t].field x.field<0) (h2:∀ t (ht:t<l.length),k≤t→0≤cmpB l[t].field x.field) :
  Calls Tryz.prog 161 #[.slice A n c,.agg #[.string x.field,.string x.text],.func (.func 119) #[] #[]] w fun e w'=>
   e = .returned (.tuple #[.int .i64 k,.bool (foundAt l k fun y=>cmpB y.field x.field == 0)])∧Below w.heap.size w w':=by
 subst hln
 have H1:=hide h1;have H2:=hide h2
 clear h1 h2
 go_enter Tryz.func161,Tryz.ntmps161
 go_wp2
 go_loopw [9,10] (fun s t wr=>∃ lo hi:Nat,s = .int .i64 lo∧t = .int .i64 hi∧lo≤k∧k≤hi∧hi≤l.length∧Below w.heap.size w wr∧Blk wr w.heap.size 137 #[.string x.field,.string x.text]) (fun s t _=>(intOf t - intOf s).toNat)
 case atStart=>exact ⟨0,l.length,rfl,rfl,by omega,by omega,by omega,below_by,Blk.new _ _ _⟩
 case round=>
  obtain ⟨lo,hi,rfl,rfl,hlk,hkh,hhn,hbr,hB⟩:=hrel
  by_cases hlt:lo<hi
  ·obtain ⟨m,hm⟩:∃ m,m=(lo+hi) / 2:=⟨_,rfl⟩
   have hmi:((lo:Int)+(hi:Int)) / 2=(m:Int):=by omega
   have hml:m<l.length:=by omega
   obtain ⟨b,off,rfl,hb,p0,p1⟩:=(h.below hbr).pair hml
   have hq1:=H1.out m hml
   have hq2:=H2.out m hml
   have HM:=hide hm
   clear hm
   generalize l[m]=y at *
   have c0:=hB.cell 0
   have c1:=hB.cell 1
   simp at c0 c1
   have hw0:w.heap.size<wr.heap.size:=hB.lt
   have hz1:(0:Int)≤m:=by omega
   have hz2:(m:Int)<l.length:=by omega
   go_wp2_with fail
   go_region_held3 (fun w'=>w'.cell? ⟨b,off+m*2,none⟩=some (.string y.field)∧w'.cell? ⟨b,off+m*2+1,none⟩=some (.string y.text)∧w'.cell? ⟨w.heap.size,0,none⟩=some (.string x.field)∧w'.cell? ⟨w.heap.size,1,none⟩=some (.string x.text)) (simp [go_sem, *])
    (first|((go_at_call 119;with_reducible refine (byField_ y x _).mono ?_);rintro e w2 ⟨rfl,hb2⟩;have r0:=((bcell hb2).1 b (off+m*2) hb).trans p0;have r1:=((bcell hb2).1 b (off+m*2+1) hb).trans p1;have r2:=((bcell hb2).1 w.heap.size 0 hw0).trans c0;have r3:=((bcell hb2).1 w.heap.size 1 hw0).trans c1))
   by_cases hc:cmpB y.field x.field<0
   ·have hmk:m<k:=by
     rcases Nat.lt_or_ge m k with h'|h'
     ·exact h'
     ·have:=hq2 h';omega
    go_wp2_with fail
    go_round
    case rel=>exact ⟨m+1,hi,by go_num,rfl,by omega,by omega,by omega,below_by,hB.drew.below' hb2⟩
    case measure=>have:=HM.out;simp [intOf];omega
   ·have hmk:k≤m:=by
     rcases Nat.lt_or_ge m k with h'|h'
     ·have:=hq1 h';omega
     ·exact h'
    go_wp2_with fail
    go_round
    case rel=>exact ⟨lo,m,rfl,rfl,by omega,by omega,by omega,below_by,hB.drew.below' hb2⟩
    case measure=>have:=HM.out;simp [intOf];omega
  ·obtain rfl:lo=k:=by omega
   obtain rfl:hi=lo:=by omega
   by_cases hkl:hi<l.length
   ·have HF:=hide (foundAt_lt (p:=fun z=>cmpB z.field x.field == 0) hkl)
    obtain ⟨b,off,rfl,hb,p0,p1⟩:=(h.below hbr).pair hkl
    clear hhn hkn hkh hlk H1 H2
    generalize l[hi]=y at *
    have c0:=hB.cell 0
    have c1:=hB.cell 1
    simp at c0 c1
    have hw0:w.heap.size<wr.heap.size:=hB.lt
    have hz1:(0:Int)≤hi:=by omega
    have hz2:(hi:Int)<l.length:=by omega
    go_wp2_with fail
    go_region_held3 (fun w'=>w'.cell? ⟨b,off+hi*2,none⟩=some (.string y.field)∧w'.cell? ⟨b,off+hi*2+1,none⟩=some (.string y.text)∧w'.cell? ⟨w.heap.size,0,none⟩=some (.string x.field)∧w'.cell? ⟨w.heap.size,1,none⟩=some (.string x.text)) (simp [go_sem, *])
     (first|((go_at_call 119;with_reducible refine (byField_ y x _).mono ?_);rintro e w2 ⟨rfl,hb2⟩;have r0:=((bcell hb2).1 b (off+hi*2) hb).trans p0;have r1:=((bcell hb2).1 b (off+hi*2+1) hb).trans p1;have r2:=((bcell hb2).1 w.heap.size 0 hw0).trans c0;have r3:=((bcell hb2).1 w.heap.size 1 hw0).trans c1))
    go_wp2_with fail
    go_ret2
    exact ⟨by rw [HF.out];rfl,below_by⟩
   ·have HF:=hide (foundAt_ge (p:=fun z=>cmpB z.field x.field == 0) (show l.length≤hi by omega))
    have hd:decide ((hi:Int)<(l.length:Int))=false:=by simp;omega
    have c0:=hB.cell 0
    have c1:=hB.cell 1
    simp at c0 c1
    go_wp2_with fail
    go_quiet (fail)
    go_wp2_with fail
    go_ret2
    exact ⟨by rw [HF.out];rfl,below_by⟩
theorem Bin_score (A:Option Addr) (n c k:Nat) (l:List Sc) (x:Sc) (w:World) (hln:l.length=n) (hl:l.length≤1048576) (h:Seg w 2 A (scoreRows l)) (hkn:k≤l.length)
  (h1:∀ t (ht:t<l.length),t<k→cmpS l[t] x<0) (h2:∀ t (ht:t<l.length),k≤t→0≤cmpS l[t] x) :
  Calls Tryz.prog 169 #[.slice A n c,.agg #[.string x.member,.int .i64 x.n],.func (.func 121) #[] #[]] w fun e w'=>
   e = .returned (.tuple #[.int .i64 k,.bool (foundAt l k fun y=>cmpS y x == 0)])∧Below w.heap.size w w':=by
 subst hln
 have H1:=hide h1;have H2:=hide h2
 clear h1 h2
 go_enter Tryz.func169,Tryz.ntmps169
 go_wp2
 go_loopw [9,10] (fun s t wr=>∃ lo hi:Nat,s = .int .i64 lo∧t = .int .i64 hi∧lo≤k∧k≤hi∧hi≤l.length∧Below w.heap.size w wr∧Blk wr w.heap.size 139 #[.string x.member,.int .i64 x.n]) (fun s t _=>(intOf t - intOf s).toNat)
 case atStart=>exact ⟨0,l.length,rfl,rfl,by omega,by omega,by omega,below_by,Blk.new _ _ _⟩
 case round=>
  obtain ⟨lo,hi,rfl,rfl,hlk,hkh,hhn,hbr,hB⟩:=hrel
  by_cases hlt:lo<hi
  ·obtain ⟨m,hm⟩:∃ m,m=(lo+hi) / 2:=⟨_,rfl⟩
   have hmi:((lo:Int)+(hi:Int)) / 2=(m:Int):=by omega
   have hml:m<l.length:=by omega
   obtain ⟨b,off,rfl,hb,p0,p1⟩:=(h.below hbr).score hml
   have hq1:=H1.out m hml
   have hq2:=H2.out m hml
   have HM:=hide hm
   clear hm
   generalize l[m]=y at *
   have c0:=hB.cell 0
   have c1:=hB.cell 1
   simp at c0 c1
   have hw0:w.heap.size<wr.heap.size:=hB.lt
   have hz1:(0:Int)≤m:=by omega
   have hz2:(m:Int)<l.length:=by omega
   go_wp2_with fail
   go_region_held3 (fun w'=>w'.cell? ⟨b,off+m*2,none⟩=some (.string y.member)∧w'.cell? ⟨b,off+m*2+1,none⟩=some (.int .i64 y.n)∧w'.cell? ⟨w.heap.size,0,none⟩=some (.string x.member)∧w'.cell? ⟨w.heap.size,1,none⟩=some (.int .i64 x.n)) (simp [go_sem, *])
    (first|((go_at_call 121;with_reducible refine (byScore_ y x _).mono ?_);rintro e w2 ⟨rfl,hb2⟩;have r0:=((bcell hb2).1 b (off+m*2) hb).trans p0;have r1:=((bcell hb2).1 b (off+m*2+1) hb).trans p1;have r2:=((bcell hb2).1 w.heap.size 0 hw0).trans c0;have r3:=((bcell hb2).1 w.heap.size 1 hw0).trans c1))
   by_cases hc:cmpS y x<0
   ·have hmk:m<k:=by
     rcases Nat.lt_or_ge m k with h'|h'
     ·exact h'
     ·have:=hq2 h';omega
    go_wp2_with fail
    go_round
    case rel=>exact ⟨m+1,hi,by go_num,rfl,by omega,by omega,by omega,below_by,hB.drew.below' hb2⟩
    case measure=>have:=HM.out;simp [intOf];omega
   ·have hmk:k≤m:=by
     rcases Nat.lt_or_ge m k with h'|h'
     ·have:=hq1 h';omega
     ·exact h'
    go_wp2_with fail
    go_round
    case rel=>exact ⟨lo,m,rfl,rfl,by omega,by omega,by omega,below_by,hB.drew.below' hb2⟩
    case measure=>have:=HM.out;simp [intOf];omega
  ·obtain rfl:lo=k:=by omega
   obtain rfl:hi=lo:=by omega
   by_cases hkl:hi<l.length
   ·have HF:=hide (foundAt_lt (p:=fun z=>cmpS z x == 0) hkl)
    obtain ⟨b,off,rfl,hb,p0,p1⟩:=(h.below hbr).score hkl
    clear hhn hkn hkh hlk H1 H2
    generalize l[hi]=y at *
    have c0:=hB.cell 0
    have c1:=hB.cell 1
    simp at c0 c1
    have hw0:w.heap.size<wr.heap.size:=hB.lt
    have hz1:(0:Int)≤hi:=by omega
    have hz2:(hi:Int)<l.length:=by omega
    go_wp2_with fail
    go_region_held3 (fun w'=>w'.cell? ⟨b,off+hi*2,none⟩=some (.string y.member)∧w'.cell? ⟨b,off+hi*2+1,none⟩=some (.int .i64 y.n)∧w'.cell? ⟨w.heap.size,0,none⟩=some (.string x.member)∧w'.cell? ⟨w.heap.size,1,none⟩=some (.int .i64 x.n)) (simp [go_sem, *])
     (first|((go_at_call 121;with_reducible refine (byScore_ y x _).mono ?_);rintro e w2 ⟨rfl,hb2⟩;have r0:=((bcell hb2).1 b (off+hi*2) hb).trans p0;have r1:=((bcell hb2).1 b (off+hi*2+1) hb).trans p1;have r2:=((bcell hb2).1 w.heap.size 0 hw0).trans c0;have r3:=((bcell hb2).1 w.heap.size 1 hw0).trans c1))
    go_wp2_with fail
    go_ret2
    exact ⟨by rw [HF.out];rfl,below_by⟩
   ·have HF:=hide (foundAt_ge (p:=fun z=>cmpS z x == 0) (show l.length≤hi by omega))
    have hd:decide ((hi:Int)<(l.length:Int))=false:=by simp;omega
    have c0:=hB.cell 0
    have c1:=hB.cell 1
    simp at c0 c1
    go_wp2_with fail
    go_quiet (fail)
    go_wp2_with fail
    go_ret2
    exact ⟨by rw [HF.out];rfl,below_by⟩
theorem isNaN_str (x:ByteArray) (w:World):Calls Tryz.prog 183 #[.string x] w fun e w'=>e = .returned (.bool false)∧w=w':=by
 go_enter Tryz.func183,Tryz.ntmps183
 go_wp2_with fail
 go_ret
 exact ⟨by simp,rfl⟩
theorem sisNaN_str (x:ByteArray) (w:World):Calls Tryz.prog 177 #[.string x] w fun e w'=>e = .returned (.bool false)∧w=w':=by
 go_enter Tryz.func177,Tryz.ntmps177
 go_wp2_with fail
 go_ret
 exact ⟨by simp,rfl⟩
theorem Less_str (x y:ByteArray) (w:World):Calls Tryz.prog 176 #[.string x,.string y] w fun e w'=>e = .returned (.bool (decide (cmpB x y<0)))∧w=w':=by
 rw [←cmpB_less]
 go_enter Tryz.func176,Tryz.ntmps176
 go_wp2_with (go_at_call 183;refine (isNaN_str _ _).mono ?_;rintro e w' ⟨rfl,rfl⟩)
 go_ret
 exact ⟨rfl,rfl⟩
theorem beq_cmpB (y x:ByteArray):(y.toList == x.toList)=(cmpB y x == 0):=by
 rw [Bool.eq_iff_iff,beq_iff_eq,beq_iff_eq,cmpB_eq,Lib.toList_data,Lib.toList_data]
 exact ⟨bytes_ext,fun h=>by rw [h]⟩
theorem Bin_str (A:Option Addr) (n c k:Nat) (l:List ByteArray) (x:ByteArray) (w:World) (hln:l.length=n) (hl:l.length≤1048576) (h:Seg w 1 A (strRows l)) (hkn:k≤l.length)
  (h1:∀ t (ht:t<l.length),t<k→cmpB l[t] x<0) (h2:∀ t (ht:t<l.length),k≤t→0≤cmpB l[t] x) :
  Calls Tryz.prog 166 #[.slice A n c,.string x] w fun e w'=>
   e = .returned (.tuple #[.int .i64 k,.bool (foundAt l k fun y=>cmpB y x == 0)])∧w=w':=by
 subst hln
 have H1:=hide h1;have H2:=hide h2
 clear h1 h2
 go_enter Tryz.func166,Tryz.ntmps166
 go_wp2
 go_loop [7,8] (fun s t=>∃ lo hi:Nat,s = .int .i64 lo∧t = .int .i64 hi∧lo≤k∧k≤hi∧hi≤l.length) (fun s t=>(intOf t - intOf s).toNat)
 case atStart=>exact ⟨0,l.length,rfl,rfl,by omega,by omega,by omega⟩
 case round=>
  obtain ⟨lo,hi,rfl,rfl,hlk,hkh,hhn⟩:=hrel
  by_cases hlt:lo<hi
  ·obtain ⟨m,hm⟩:∃ m,m=(lo+hi) / 2:=⟨_,rfl⟩
   have hmi:((lo:Int)+(hi:Int)) / 2=(m:Int):=by omega
   have hml:m<l.length:=by omega
   obtain ⟨b,off,rfl,hb,p0⟩:=h.str hml
   have hq1:=H1.out m hml
   have hq2:=H2.out m hml
   have HM:=hide hm
   clear hm
   generalize l[m]=y at *
   have hz1:(0:Int)≤m:=by omega
   have hz2:(m:Int)<l.length:=by omega
   go_wp2_with fail
   refine (Less_str _ _ _).mono ?_
   rintro e w' ⟨rfl,rfl⟩
   by_cases hc:cmpB y x<0
   ·have hmk:m<k:=by
     rcases Nat.lt_or_ge m k with h'|h'
     ·exact h'
     ·have:=hq2 h';omega
    go_wp2_with fail
    go_round
    case rel=>exact ⟨m+1,hi,by go_num,rfl,by omega,by omega,by omega⟩
    case measure=>have:=HM.out;simp [intOf];omega
   ·have hmk:k≤m:=by
     rcases Nat.lt_or_ge m k with h'|h'
     ·have:=hq1 h';omega
     ·exact h'
    go_wp2_with fail
    go_round
    case rel=>exact ⟨lo,m,rfl,rfl,by omega,by omega,by omega⟩
    case measure=>have:=HM.out;simp [intOf];omega
  ·obtain rfl:lo=k:=by omega
   obtain rfl:hi=lo:=by omega
   by_cases hkl:hi<l.length
   ·have HF:=hide (foundAt_lt (p:=fun z=>cmpB z x == 0) hkl)
    obtain ⟨b,off,rfl,hb,p0⟩:=h.str hkl
    clear hhn hkn hkh hlk H1 H2
    generalize l[hi]=y at *
    have hz1:(0:Int)≤hi:=by omega
    have hz2:(hi:Int)<l.length:=by omega
    have HB:=hide (beq_cmpB y x)
    go_wp2_with (go_at_call 177;refine (sisNaN_str _ _).mono ?_;rintro e w' ⟨rfl,rfl⟩)
    all_goals go_ret2
    all_goals exact ⟨by rw [HF.out];simp only [];rw [←HB.out];simp_all,rfl⟩
   ·have HF:=hide (foundAt_ge (p:=fun z=>cmpB z x == 0) (show l.length≤hi by omega))
    have hd:decide ((hi:Int)<(l.length:Int))=false:=by simp;omega
    go_wp2_with fail
    go_ret2
    exact ⟨by rw [HF.out];rfl,rfl⟩
end Go.Proofs.YtgmojjclobkpjaaGreatDoor

