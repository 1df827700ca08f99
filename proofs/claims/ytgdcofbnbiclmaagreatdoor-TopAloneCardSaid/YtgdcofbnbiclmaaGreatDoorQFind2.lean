import Derived.Test.YtgdcofbnbiclmaaGreatDoorQHeldX
import Derived.Test.YtgdcofbnbiclmaaGreatDoorQCmd
namespace Go.Proofs.YtgdcofbnbiclmaaGreatDoor
set_option linter.all false
set_option maxHeartbeats 32000000
open Go.RowKit
theorem rank1_ (x:Sc) (g:Nat) (m:ByteArray) (w:World) (hg:g<w.heap.size) (hm:w.cell? ⟨g,0,none⟩=some (.string m)) :
  Calls Tryz.prog 181 #[.agg #[.string x.member,.int .i64 x.n],.pointer (some ⟨g,0,none⟩)] w fun e w'=>e = .returned (.bool (x.member.toList == m.toList))∧Below w.heap.size w w':=by
 go_enter Tryz.func181,Tryz.ntmps181
 go_wp2_with fail
 go_ret
 exact ⟨rfl,below_by⟩
theorem FindScore (f:FuncId) (hf:∀ args w,(callFunc f args).run Tryz.prog w = .ok (.enter f args) w) (p:Sc→Bool) (w0:World) (g:Nat)
  (hp:∀ (s:Sc) (w:World),Below w0.heap.size w0 w→Calls Tryz.prog f #[.agg #[.string s.member,.int .i64 s.n],.pointer (some ⟨g,0,none⟩)] w fun e w'=>e = .returned (.bool (p s))∧Below w.heap.size w w')
  (A:Option Addr) (ln c:Nat) (l:List Sc) (hln:l.length=ln) (hl:l.length≤1048576) (h:Seg w0 2 A (scoreRows l)) :
  Calls Tryz.prog 177 #[.slice A ln c,.func (.func f) #[] #[.pointer (some ⟨g,0,none⟩)]] w0 fun e w'=>e = .returned (.int .i64 (idxFn (l.findIdx? p)))∧Below w0.heap.size w0 w':=by
 subst hln
 have HP:=hide hp
 clear hp
 go_enter Tryz.func177,Tryz.ntmps177
 go_wp2
 go_loopw [5,8] (fun _ i wr=>∃ k:Nat,k≤l.length∧i = .int .i64 k∧Hid (∀ j,j<k→∀ s,l[j]?=some s→p s=false)∧Below w0.heap.size w0 wr) (fun _ i _=>l.length - (intOf i).toNat)
 case atStart=>exact ⟨0,by omega,rfl,fun j hj=>by omega,below_by⟩
 case round=>
  obtain ⟨k,hk,rfl,HQ,hbr⟩:=hrel
  by_cases hlt:k<l.length
  ·obtain ⟨b,off,rfl,hb,hc0,hc1⟩:=(h.below hbr).score hlt
   go_wp2_with fail
   by_cases hps:p l[k]=true
   ·refine (HP.out _ _ hbr).mono ?_
    rintro e w' ⟨rfl,hb2⟩
    go_wp2_with fail
    go_ret
    exact ⟨by rw [idx_hit hlt hps HQ];rfl,bstep hbr hb2⟩
   ·have hps':p l[k]=false:=by simpa using hps
    refine (HP.out _ _ hbr).mono ?_
    rintro e w' ⟨rfl,hb2⟩
    go_wp2_with fail
    go_round
    case rel=>exact ⟨k+1,by omega,by go_num,idx_next hlt hps' HQ,bstep hbr hb2⟩
    case measure=>simp [intOf];omega
  ·obtain rfl:k=l.length:=by omega
   go_wp2_with fail
   go_ret
   exact ⟨by rw [idx_miss HQ];rfl,hbr⟩
theorem Find0_pair (f:FuncId) (hf:∀ args w,(callFunc f args).run Tryz.prog w = .ok (.enter f args) w) (p:Pr→Bool) (w0:World)
  (hp:∀ (s:Pr) (w:World),Below w0.heap.size w0 w→Calls Tryz.prog f #[.agg #[.string s.field,.string s.text]] w fun e w'=>e = .returned (.bool (p s))∧Below w.heap.size w w')
  (A:Option Addr) (ln c:Nat) (l:List Pr) (hln:l.length=ln) (hl:l.length≤9223372036854775807) (h:Seg w0 2 A (pairRows l)) :
  Calls Tryz.prog 176 #[.slice A ln c,.func (.func f) #[] #[]] w0 fun e w'=>e = .returned (.int .i64 (idxFn (l.findIdx? p)))∧Below w0.heap.size w0 w':=by
 subst hln
 have HP:=hide hp
 clear hp
 go_enter Tryz.func176,Tryz.ntmps176
 go_wp2
 go_loopw [5,8] (fun _ i wr=>∃ k:Nat,k≤l.length∧i = .int .i64 k∧Hid (∀ j,j<k→∀ s,l[j]?=some s→p s=false)∧Below w0.heap.size w0 wr) (fun _ i _=>l.length - (intOf i).toNat)
 case atStart=>exact ⟨0,by omega,rfl,fun j hj=>by omega,below_by⟩
 case round=>
  obtain ⟨k,hk,rfl,HQ,hbr⟩:=hrel
  by_cases hlt:k<l.length
  ·obtain ⟨b,off,rfl,hb,hc0,hc1⟩:=(h.below hbr).pair hlt
   go_wp2_with fail
   by_cases hps:p l[k]=true
   ·refine (HP.out _ _ hbr).mono ?_
    rintro e w' ⟨rfl,hb2⟩
    go_wp2_with fail
    go_ret
    exact ⟨by rw [idx_hit hlt hps HQ];rfl,bstep hbr hb2⟩
   ·have hps':p l[k]=false:=by simpa using hps
    refine (HP.out _ _ hbr).mono ?_
    rintro e w' ⟨rfl,hb2⟩
    go_wp2_with fail
    go_round
    case rel=>exact ⟨k+1,by omega,by go_num,idx_next hlt hps' HQ,bstep hbr hb2⟩
    case measure=>simp [intOf];omega
  ·obtain rfl:k=l.length:=by omega
   go_wp2_with fail
   go_ret
   exact ⟨by rw [idx_miss HQ];rfl,hbr⟩
theorem Contains0_pair (f:FuncId) (hf:∀ args w,(callFunc f args).run Tryz.prog w = .ok (.enter f args) w) (p:Pr→Bool) (w0:World)
  (hp:∀ (s:Pr) (w:World),Calls Tryz.prog f #[.agg #[.string s.field,.string s.text]] w fun e w'=>e = .returned (.bool (p s))∧Below w.heap.size w w')
  (A:Option Addr) (ln c:Nat) (l:List Pr) (hln:l.length=ln) (hl:l.length≤9223372036854775807) (h:Seg w0 2 A (pairRows l)) :
  Calls Tryz.prog 142 #[.slice A ln c,.func (.func f) #[] #[]] w0 fun e w'=>e = .returned (.bool (l.any p))∧Below w0.heap.size w0 w':=by
 subst hln
 have HP:=hide hp
 clear hp
 go_enter Tryz.func142,Tryz.ntmps142
 go_wp2_with fail
 refine (Find0_pair f hf p _ (fun s w _=>HP.out s w) A _ c l rfl hl h).mono ?_
 rintro e w' ⟨rfl,hb⟩
 go_wp2_with fail
 go_ret
 exact ⟨by simp only [ge_iff_le,idx_any,Bool.decide_eq_true];rfl,hb⟩
theorem Find0_score (f:FuncId) (hf:∀ args w,(callFunc f args).run Tryz.prog w = .ok (.enter f args) w) (p:Sc→Bool) (w0:World)
  (hp:∀ (s:Sc) (w:World),Below w0.heap.size w0 w→Calls Tryz.prog f #[.agg #[.string s.member,.int .i64 s.n]] w fun e w'=>e = .returned (.bool (p s))∧Below w.heap.size w w')
  (A:Option Addr) (ln c:Nat) (l:List Sc) (hln:l.length=ln) (hl:l.length≤9223372036854775807) (h:Seg w0 2 A (scoreRows l)) :
  Calls Tryz.prog 177 #[.slice A ln c,.func (.func f) #[] #[]] w0 fun e w'=>e = .returned (.int .i64 (idxFn (l.findIdx? p)))∧Below w0.heap.size w0 w':=by
 subst hln
 have HP:=hide hp
 clear hp
 go_enter Tryz.func177,Tryz.ntmps177
 go_wp2
 go_loopw [5,8] (fun _ i wr=>∃ k:Nat,k≤l.length∧i = .int .i64 k∧Hid (∀ j,j<k→∀ s,l[j]?=some s→p s=false)∧Below w0.heap.size w0 wr) (fun _ i _=>l.length - (intOf i).toNat)
 case atStart=>exact ⟨0,by omega,rfl,fun j hj=>by omega,below_by⟩
 case round=>
  obtain ⟨k,hk,rfl,HQ,hbr⟩:=hrel
  by_cases hlt:k<l.length
  ·obtain ⟨b,off,rfl,hb,hc0,hc1⟩:=(h.below hbr).score hlt
   go_wp2_with fail
   by_cases hps:p l[k]=true
   ·refine (HP.out _ _ hbr).mono ?_
    rintro e w' ⟨rfl,hb2⟩
    go_wp2_with fail
    go_ret
    exact ⟨by rw [idx_hit hlt hps HQ];rfl,bstep hbr hb2⟩
   ·have hps':p l[k]=false:=by simpa using hps
    refine (HP.out _ _ hbr).mono ?_
    rintro e w' ⟨rfl,hb2⟩
    go_wp2_with fail
    go_round
    case rel=>exact ⟨k+1,by omega,by go_num,idx_next hlt hps' HQ,bstep hbr hb2⟩
    case measure=>simp [intOf];omega
  ·obtain rfl:k=l.length:=by omega
   go_wp2_with fail
   go_ret
   exact ⟨by rw [idx_miss HQ];rfl,hbr⟩
theorem Contains0_score (f:FuncId) (hf:∀ args w,(callFunc f args).run Tryz.prog w = .ok (.enter f args) w) (p:Sc→Bool) (w0:World)
  (hp:∀ (s:Sc) (w:World),Calls Tryz.prog f #[.agg #[.string s.member,.int .i64 s.n]] w fun e w'=>e = .returned (.bool (p s))∧Below w.heap.size w w')
  (A:Option Addr) (ln c:Nat) (l:List Sc) (hln:l.length=ln) (hl:l.length≤9223372036854775807) (h:Seg w0 2 A (scoreRows l)) :
  Calls Tryz.prog 144 #[.slice A ln c,.func (.func f) #[] #[]] w0 fun e w'=>e = .returned (.bool (l.any p))∧Below w0.heap.size w0 w':=by
 subst hln
 have HP:=hide hp
 clear hp
 go_enter Tryz.func144,Tryz.ntmps144
 go_wp2_with fail
 refine (Find0_score f hf p _ (fun s w _=>HP.out s w) A _ c l rfl hl h).mono ?_
 rintro e w' ⟨rfl,hb⟩
 go_wp2_with fail
 go_ret
 exact ⟨by simp only [ge_iff_le,idx_any,Bool.decide_eq_true];rfl,hb⟩
theorem check1_ (s:ByteArray) (w:World):Calls Tryz.prog 141 #[.string s] w fun e w'=>e = .returned (.bool (!textOk s))∧w=w':=by
 go_enter Tryz.func141,Tryz.ntmps141
 go_wp2_with (go_at_call 116;refine (textOk_any _ _).mono ?_;rintro e w' ⟨rfl,rfl⟩)
 go_ret
 exact ⟨rfl,rfl⟩
theorem check2_ (x:Pr) (w:World):Calls Tryz.prog 143 #[.agg #[.string x.field,.string x.text]] w fun e w'=>e = .returned (.bool (!fieldOk x.field || !textOk x.text))∧Below w.heap.size w w':=by
 go_enter Tryz.func143,Tryz.ntmps143
 go_wp2_with (first|(go_at_call 115;refine (fieldOk_any _ _).mono ?_;rintro e w' ⟨rfl,rfl⟩)|(go_at_call 116;refine (textOk_any _ _).mono ?_;rintro e w' ⟨rfl,rfl⟩))
 all_goals go_ret
 all_goals refine ⟨ret_bool ?_,below_by⟩
 all_goals simp_all
theorem check3_ (x:Sc) (w:World):Calls Tryz.prog 145 #[.agg #[.string x.member,.int .i64 x.n]] w fun e w'=>e = .returned (.bool (!textOk x.member))∧Below w.heap.size w w':=by
 go_enter Tryz.func145,Tryz.ntmps145
 go_wp2_with (go_at_call 116;refine (textOk_any _ _).mono ?_;rintro e w' ⟨rfl,rfl⟩)
 go_ret
 exact ⟨rfl,below_by⟩
theorem check4_ (x:Sc) (w:World):Calls Tryz.prog 146 #[.agg #[.string x.member,.int .i64 x.n]] w fun e w'=>e = .returned (.bool (!countOk x.n))∧Below w.heap.size w w':=by
 go_enter Tryz.func146,Tryz.ntmps146
 go_wp2_with (go_at_call 117;refine (countOk_any _ _).mono ?_;rintro e w' ⟨rfl,rfl⟩)
 go_ret
 exact ⟨rfl,below_by⟩
def rankOf (l:List Sc) (m:ByteArray):Int:=idxFn (l.findIdx? fun x=>x.member.toList == m.toList)
theorem rank_any (A:Option Addr) (ln c:Nat) (l:List Sc) (m:ByteArray) (w:World) (hln:l.length=ln) (hl:l.length≤1048576) (h:Seg w 2 A (scoreRows l)) :
  Calls Tryz.prog 153 #[.slice A ln c,.string m] w fun e w'=>e = .returned (.int .i64 (rankOf l m))∧Below w.heap.size w w':=by
 go_enter Tryz.func153,Tryz.ntmps153
 go_wp2_with fail
 refine (FindScore 181 (run_enter Tryz.func181 (by kernel_rfl) (by kernel_rfl)) (fun x=>x.member.toList == m.toList) _ _ (fun s w1 hb=>rank1_ s _ m w1 ?_ ?_) A _ c l hln hl (h.alloc _)).mono ?_
 ·have:=hb.size;simp at this;omega
 ·rw [hb.cell (p:=⟨_,0,none⟩) (by simp)]
  exact World.cell?_alloc_new w _ _ 0
 rintro e w' ⟨rfl,hb⟩
 go_wp2_with fail
 go_ret
 exact ⟨rfl,below_by⟩
end Go.Proofs.YtgdcofbnbiclmaaGreatDoor

