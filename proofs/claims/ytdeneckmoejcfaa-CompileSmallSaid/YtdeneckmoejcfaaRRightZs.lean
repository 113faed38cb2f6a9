/- The reference's right and change, walked: whether an instruction's number is right, and how it changes the depth. -/
import Derived.Test.YtdeneckmoejcfaaPSoundAZs
set_option linter.unusedSimpArgs false
set_option linter.unusedVariables false
set_option maxRecDepth 100000
set_option maxHeartbeats 4000000
namespace Go.Proofs.Ytdeneckmoejcfaa
open Go.RowKit
theorem rright_any (p:ProgS) (ac:Option Addr) (cap:Nat) (op a:Int) (w:World) (hlen:p.code.length<=1000000) :
  Calls Try.prog 53 #[zow p (.slice ac p.code.length cap),.agg #[.int .u8 op,.int .i64 a]] w (zbe (decide (rightI p.code.length p.locals ⟨op,a⟩)) w):=by
 obtain ⟨W1,hW1,hX1,hb1⟩:∃ W1,W1=w.alloc (.cells #[.slice ac p.code.length cap,.int .i64 p.locals,.int .u32 (w32 p.reads),.int .u32 (w32 p.writes)] 40)/\OwnV W1 w.heap.size 40 (p.cells (.slice ac p.code.length cap))/\Below w.heap.size w W1:=⟨_,rfl,OwnV.new _ _ _,(yR _ _).alloc (zr _) _⟩;obtain ⟨W2,hW2,hX2,hb2⟩:∃ W2,W2=W1.alloc (.cells #[.int .u8 op,.int .i64 a] 47)/\OwnV W2 W1.heap.size 47 [.int .u8 op,.int .i64 a]/\Below W1.heap.size W1 W2:=⟨_,rfl,OwnV.new _ _ _,(yR _ _).alloc (zr _) _⟩;have Hb:=zh (hb1.trans (hb2.mono hb1.size));have hX1':=hX1.below hb2 (zr _);have p0:=hX1'.cell (i:=0) (v:=.slice ac p.code.length cap) rfl;have p1:=hX1'.cell (i:=1) (v:=.int .i64 p.locals) rfl;obtain ⟨y0,y1⟩:=yc2 hX2;have HW:=zh hW2;have HW1:=zh hW1;have hsz1:W1.heap.size=w.heap.size+1:=by rw [hW1];simp
 have Hsz:=zh hsz1;obtain ⟨q,hq⟩:∃ q,decide (rightI p.code.length p.locals ⟨op,a⟩)=q:=⟨_,rfl⟩;have Hq:=zh hq;rw [hq];unfold zow;clear hq hX1 hX1' hX2 hb1 hb2 hW1 hW2 hsz1;have cases':op=1∨op=2∨op=3∨op=4∨op=5∨op=6∨op=7∨op=8∨op=9∨op=10∨op=11∨op=12∨op=13∨op=14∨op=15∨(op≠1/\op≠2/\op≠3/\op≠4/\op≠5/\op≠6/\op≠7/\op≠8/\op≠9/\op≠10/\op≠11/\op≠12/\op≠13/\op≠14/\op≠15):=by omega
 rcases cases' with rfl | rfl | rfl | rfl | rfl | rfl | rfl | rfl | rfl | rfl | rfl | rfl | rfl | rfl | rfl | ⟨n1,n2,n3,n4,n5,n6,n7,n8,n9,n10,n11,n12,n13,n14,n15⟩
 ·obtain rfl:q=true:=(by rw [<- Hq.out,yQ];simp [rightI]);go_enter Try.func53,Try.ntmps53
  go_upto_region 1 with (fail)
  rw [<- HW1.out,<- HW.out,<- Hsz.out];go_wp2_with fail
  go_ret;exact ⟨by first | rfl | (simp;omega),Hb.out⟩
 ·have sp:(a < 0)∨(0<=a/\a < p.locals)∨(0<=a/\p.locals<=a):=by omega
  rcases sp with s0 | ⟨s0,s1⟩ | ⟨s0,s1⟩
  ·obtain rfl:q=false:=(by rw [<- Hq.out,decide_eq_false_iff_not];simp [rightI];omega);go_enter Try.func53,Try.ntmps53
   go_upto_region 1 with (fail)
   rw [<- HW1.out,<- HW.out,<- Hsz.out];go_wp2_with fail
   go_ret;exact ⟨by first | rfl | (simp;omega),Hb.out⟩
  ·obtain rfl:q=true:=(by rw [<- Hq.out,yQ];simp [rightI];omega);go_enter Try.func53,Try.ntmps53
   go_upto_region 1 with (fail)
   rw [<- HW1.out,<- HW.out,<- Hsz.out];go_wp2_with fail
   go_ret;exact ⟨by first | rfl | (simp;omega),Hb.out⟩
  ·obtain rfl:q=false:=(by rw [<- Hq.out,decide_eq_false_iff_not];simp [rightI];omega);go_enter Try.func53,Try.ntmps53
   go_upto_region 1 with (fail)
   rw [<- HW1.out,<- HW.out,<- Hsz.out];go_wp2_with fail
   go_ret;exact ⟨by first | rfl | (simp;omega),Hb.out⟩
 ·have sp:(a < 0)∨(0<=a/\a < p.locals)∨(0<=a/\p.locals<=a):=by omega
  rcases sp with s0 | ⟨s0,s1⟩ | ⟨s0,s1⟩
  ·obtain rfl:q=false:=(by rw [<- Hq.out,decide_eq_false_iff_not];simp [rightI];omega);go_enter Try.func53,Try.ntmps53
   go_upto_region 1 with (fail)
   rw [<- HW1.out,<- HW.out,<- Hsz.out];go_wp2_with fail
   go_ret;exact ⟨by first | rfl | (simp;omega),Hb.out⟩
  ·obtain rfl:q=true:=(by rw [<- Hq.out,yQ];simp [rightI];omega);go_enter Try.func53,Try.ntmps53
   go_upto_region 1 with (fail)
   rw [<- HW1.out,<- HW.out,<- Hsz.out];go_wp2_with fail
   go_ret;exact ⟨by first | rfl | (simp;omega),Hb.out⟩
  ·obtain rfl:q=false:=(by rw [<- Hq.out,decide_eq_false_iff_not];simp [rightI];omega);go_enter Try.func53,Try.ntmps53
   go_upto_region 1 with (fail)
   rw [<- HW1.out,<- HW.out,<- Hsz.out];go_wp2_with fail
   go_ret;exact ⟨by first | rfl | (simp;omega),Hb.out⟩
 ·have sp:(a < 1)∨(1<=a/\a<=10)∨(10 < a):=by omega
  rcases sp with s0 | ⟨s0,s1⟩ | s0
  ·obtain rfl:q=false:=(by rw [<- Hq.out,decide_eq_false_iff_not];simp [rightI];omega);go_enter Try.func53,Try.ntmps53
   go_upto_region 1 with (fail)
   rw [<- HW1.out,<- HW.out,<- Hsz.out];go_wp2_with fail
   go_ret;exact ⟨by first | rfl | (simp;omega),Hb.out⟩
  ·obtain rfl:q=true:=(by rw [<- Hq.out,yQ];simp [rightI];omega);go_enter Try.func53,Try.ntmps53
   go_upto_region 1 with (fail)
   rw [<- HW1.out,<- HW.out,<- Hsz.out];go_wp2_with fail
   go_ret;exact ⟨by first | rfl | (simp;omega),Hb.out⟩
  ·obtain rfl:q=false:=(by rw [<- Hq.out,decide_eq_false_iff_not];simp [rightI];omega);go_enter Try.func53,Try.ntmps53
   go_upto_region 1 with (fail)
   rw [<- HW1.out,<- HW.out,<- Hsz.out];go_wp2_with fail
   go_ret;exact ⟨by first | rfl | (simp;omega),Hb.out⟩
 ·have sp:(a < 1)∨(1<=a/\a<=10)∨(10 < a):=by omega
  rcases sp with s0 | ⟨s0,s1⟩ | s0
  ·obtain rfl:q=false:=(by rw [<- Hq.out,decide_eq_false_iff_not];simp [rightI];omega);go_enter Try.func53,Try.ntmps53
   go_upto_region 1 with (fail)
   rw [<- HW1.out,<- HW.out,<- Hsz.out];go_wp2_with fail
   go_ret;exact ⟨by first | rfl | (simp;omega),Hb.out⟩
  ·obtain rfl:q=true:=(by rw [<- Hq.out,yQ];simp [rightI];omega);go_enter Try.func53,Try.ntmps53
   go_upto_region 1 with (fail)
   rw [<- HW1.out,<- HW.out,<- Hsz.out];go_wp2_with fail
   go_ret;exact ⟨by first | rfl | (simp;omega),Hb.out⟩
  ·obtain rfl:q=false:=(by rw [<- Hq.out,decide_eq_false_iff_not];simp [rightI];omega);go_enter Try.func53,Try.ntmps53
   go_upto_region 1 with (fail)
   rw [<- HW1.out,<- HW.out,<- Hsz.out];go_wp2_with fail
   go_ret;exact ⟨by first | rfl | (simp;omega),Hb.out⟩
 ·have sp:(a=0)∨(¬ a=0):=by omega
  rcases sp with rfl | s0
  ·obtain rfl:q=true:=(by rw [<- Hq.out,yQ];simp [rightI]);go_enter Try.func53,Try.ntmps53
   go_upto_region 1 with (fail)
   rw [<- HW1.out,<- HW.out,<- Hsz.out];go_wp2_with fail
   go_ret;exact ⟨by first | rfl | (simp;omega),Hb.out⟩
  ·obtain rfl:q=false:=(by rw [<- Hq.out,decide_eq_false_iff_not];simp [rightI];exact s0);go_enter Try.func53,Try.ntmps53
   go_upto_region 1 with (fail)
   rw [<- HW1.out,<- HW.out,<- Hsz.out];go_wp2_with fail
   go_ret;exact ⟨by first | rfl | (simp;omega),Hb.out⟩
 ·have sp:(a=0)∨(¬ a=0):=by omega
  rcases sp with rfl | s0
  ·obtain rfl:q=true:=(by rw [<- Hq.out,yQ];simp [rightI]);go_enter Try.func53,Try.ntmps53
   go_upto_region 1 with (fail)
   rw [<- HW1.out,<- HW.out,<- Hsz.out];go_wp2_with fail
   go_ret;exact ⟨by first | rfl | (simp;omega),Hb.out⟩
  ·obtain rfl:q=false:=(by rw [<- Hq.out,decide_eq_false_iff_not];simp [rightI];exact s0);go_enter Try.func53,Try.ntmps53
   go_upto_region 1 with (fail)
   rw [<- HW1.out,<- HW.out,<- Hsz.out];go_wp2_with fail
   go_ret;exact ⟨by first | rfl | (simp;omega),Hb.out⟩
 ·have sp:(a=0)∨(¬ a=0):=by omega
  rcases sp with rfl | s0
  ·obtain rfl:q=true:=(by rw [<- Hq.out,yQ];simp [rightI]);go_enter Try.func53,Try.ntmps53
   go_upto_region 1 with (fail)
   rw [<- HW1.out,<- HW.out,<- Hsz.out];go_wp2_with fail
   go_ret;exact ⟨by first | rfl | (simp;omega),Hb.out⟩
  ·obtain rfl:q=false:=(by rw [<- Hq.out,decide_eq_false_iff_not];simp [rightI];exact s0);go_enter Try.func53,Try.ntmps53
   go_upto_region 1 with (fail)
   rw [<- HW1.out,<- HW.out,<- Hsz.out];go_wp2_with fail
   go_ret;exact ⟨by first | rfl | (simp;omega),Hb.out⟩
 ·have sp:(a < 7)∨(7<=a/\a<=20)∨(20 < a/\¬ a=23/\¬ a=24)∨(a=23)∨(a=24):=by omega
  rcases sp with s0 | ⟨s0,s1⟩ | ⟨s0,s1,s2⟩ | rfl | rfl
  ·obtain rfl:q=false:=(by rw [<- Hq.out,decide_eq_false_iff_not];simp [rightI];omega);go_enter Try.func53,Try.ntmps53
   go_upto_region 1 with (fail)
   rw [<- HW1.out,<- HW.out,<- Hsz.out];go_wp2_with fail
   go_ret;exact ⟨by first | rfl | (simp;omega),Hb.out⟩
  ·obtain rfl:q=true:=(by rw [<- Hq.out,yQ];simp [rightI];omega);go_enter Try.func53,Try.ntmps53
   go_upto_region 1 with (fail)
   rw [<- HW1.out,<- HW.out,<- Hsz.out];go_wp2_with fail
   go_ret;exact ⟨by first | rfl | (simp;omega),Hb.out⟩
  ·obtain rfl:q=false:=(by rw [<- Hq.out,decide_eq_false_iff_not];simp [rightI];omega);go_enter Try.func53,Try.ntmps53
   go_upto_region 1 with (fail)
   rw [<- HW1.out,<- HW.out,<- Hsz.out];go_wp2_with fail
   go_ret;exact ⟨by first | rfl | (simp;omega),Hb.out⟩
  ·obtain rfl:q=true:=(by rw [<- Hq.out,yQ];simp [rightI]);go_enter Try.func53,Try.ntmps53
   go_upto_region 1 with (fail)
   rw [<- HW1.out,<- HW.out,<- Hsz.out];go_wp2_with fail
   go_ret;exact ⟨by first | rfl | (simp;omega),Hb.out⟩
  ·obtain rfl:q=true:=(by rw [<- Hq.out,yQ];simp [rightI]);go_enter Try.func53,Try.ntmps53
   go_upto_region 1 with (fail)
   rw [<- HW1.out,<- HW.out,<- Hsz.out];go_wp2_with fail
   go_ret;exact ⟨by first | rfl | (simp;omega),Hb.out⟩
 ·have sp:(a=0)∨(¬ a=0):=by omega
  rcases sp with rfl | s0
  ·obtain rfl:q=true:=(by rw [<- Hq.out,yQ];simp [rightI]);go_enter Try.func53,Try.ntmps53
   go_upto_region 1 with (fail)
   rw [<- HW1.out,<- HW.out,<- Hsz.out];go_wp2_with fail
   go_ret;exact ⟨by first | rfl | (simp;omega),Hb.out⟩
  ·obtain rfl:q=false:=(by rw [<- Hq.out,decide_eq_false_iff_not];simp [rightI];exact s0);go_enter Try.func53,Try.ntmps53
   go_upto_region 1 with (fail)
   rw [<- HW1.out,<- HW.out,<- Hsz.out];go_wp2_with fail
   go_ret;exact ⟨by first | rfl | (simp;omega),Hb.out⟩
 ·have sp:(a < 0)∨(0<=a/\a<=(p.code.length:Int))∨((p.code.length:Int) < a):=by omega
  rcases sp with s0 | ⟨s0,s1⟩ | s0
  ·obtain rfl:q=false:=(by rw [<- Hq.out,decide_eq_false_iff_not];simp [rightI];omega);go_enter Try.func53,Try.ntmps53
   go_upto_region 1 with (fail)
   rw [<- HW1.out,<- HW.out,<- Hsz.out];go_wp2_with fail
   go_ret;exact ⟨by first | rfl | (simp;omega),Hb.out⟩
  ·obtain rfl:q=true:=(by rw [<- Hq.out,yQ];simp [rightI];omega);go_enter Try.func53,Try.ntmps53
   go_upto_region 1 with (fail)
   rw [<- HW1.out,<- HW.out,<- Hsz.out];go_wp2_with fail
   go_ret;exact ⟨by first | rfl | (simp;omega),Hb.out⟩
  ·obtain rfl:q=false:=(by rw [<- Hq.out,decide_eq_false_iff_not];simp [rightI];omega);go_enter Try.func53,Try.ntmps53
   go_upto_region 1 with (fail)
   rw [<- HW1.out,<- HW.out,<- Hsz.out];go_wp2_with fail
   go_ret;exact ⟨by first | rfl | (simp;omega),Hb.out⟩
 ·have sp:(a < 0)∨(0<=a/\a<=(p.code.length:Int))∨((p.code.length:Int) < a):=by omega
  rcases sp with s0 | ⟨s0,s1⟩ | s0
  ·obtain rfl:q=false:=(by rw [<- Hq.out,decide_eq_false_iff_not];simp [rightI];omega);go_enter Try.func53,Try.ntmps53
   go_upto_region 1 with (fail)
   rw [<- HW1.out,<- HW.out,<- Hsz.out];go_wp2_with fail
   go_ret;exact ⟨by first | rfl | (simp;omega),Hb.out⟩
  ·obtain rfl:q=true:=(by rw [<- Hq.out,yQ];simp [rightI];omega);go_enter Try.func53,Try.ntmps53
   go_upto_region 1 with (fail)
   rw [<- HW1.out,<- HW.out,<- Hsz.out];go_wp2_with fail
   go_ret;exact ⟨by first | rfl | (simp;omega),Hb.out⟩
  ·obtain rfl:q=false:=(by rw [<- Hq.out,decide_eq_false_iff_not];simp [rightI];omega);go_enter Try.func53,Try.ntmps53
   go_upto_region 1 with (fail)
   rw [<- HW1.out,<- HW.out,<- Hsz.out];go_wp2_with fail
   go_ret;exact ⟨by first | rfl | (simp;omega),Hb.out⟩
 ·have sp:(a < 0)∨(0<=a/\a<=(p.code.length:Int))∨((p.code.length:Int) < a):=by omega
  rcases sp with s0 | ⟨s0,s1⟩ | s0
  ·obtain rfl:q=false:=(by rw [<- Hq.out,decide_eq_false_iff_not];simp [rightI];omega);go_enter Try.func53,Try.ntmps53
   go_upto_region 1 with (fail)
   rw [<- HW1.out,<- HW.out,<- Hsz.out];go_wp2_with fail
   go_ret;exact ⟨by first | rfl | (simp;omega),Hb.out⟩
  ·obtain rfl:q=true:=(by rw [<- Hq.out,yQ];simp [rightI];omega);go_enter Try.func53,Try.ntmps53
   go_upto_region 1 with (fail)
   rw [<- HW1.out,<- HW.out,<- Hsz.out];go_wp2_with fail
   go_ret;exact ⟨by first | rfl | (simp;omega),Hb.out⟩
  ·obtain rfl:q=false:=(by rw [<- Hq.out,decide_eq_false_iff_not];simp [rightI];omega);go_enter Try.func53,Try.ntmps53
   go_upto_region 1 with (fail)
   rw [<- HW1.out,<- HW.out,<- Hsz.out];go_wp2_with fail
   go_ret;exact ⟨by first | rfl | (simp;omega),Hb.out⟩
 ·have sp:(a=0)∨(¬ a=0):=by omega
  rcases sp with rfl | s0
  ·obtain rfl:q=true:=(by rw [<- Hq.out,yQ];simp [rightI]);go_enter Try.func53,Try.ntmps53
   go_upto_region 1 with (fail)
   rw [<- HW1.out,<- HW.out,<- Hsz.out];go_wp2_with fail
   go_ret;exact ⟨by first | rfl | (simp;omega),Hb.out⟩
  ·obtain rfl:q=false:=(by rw [<- Hq.out,decide_eq_false_iff_not];simp [rightI];exact s0);go_enter Try.func53,Try.ntmps53
   go_upto_region 1 with (fail)
   rw [<- HW1.out,<- HW.out,<- Hsz.out];go_wp2_with fail
   go_ret;exact ⟨by first | rfl | (simp;omega),Hb.out⟩
 ·have sp:(a=0)∨(¬ a=0):=by omega
  rcases sp with rfl | s0
  ·obtain rfl:q=true:=(by rw [<- Hq.out,yQ];simp [rightI]);go_enter Try.func53,Try.ntmps53
   go_upto_region 1 with (fail)
   rw [<- HW1.out,<- HW.out,<- Hsz.out];go_wp2_with fail
   go_ret;exact ⟨by first | rfl | (simp;omega),Hb.out⟩
  ·obtain rfl:q=false:=(by rw [<- Hq.out,decide_eq_false_iff_not];simp [rightI];exact s0);go_enter Try.func53,Try.ntmps53
   go_upto_region 1 with (fail)
   rw [<- HW1.out,<- HW.out,<- Hsz.out];go_wp2_with fail
   go_ret;exact ⟨by first | rfl | (simp;omega),Hb.out⟩
 ·obtain rfl:q=false:=(by rw [<- Hq.out,decide_eq_false_iff_not];simp [rightI,n1,n2,n3,n4,n5,n6,n7,n8,n9,n10,n11,n12,n13,n14,n15];try omega);go_enter Try.func53,Try.ntmps53
  go_upto_region 1 with (fail)
  rw [<- HW1.out,<- HW.out,<- Hsz.out];go_wp2_with fail
  go_ret;exact ⟨by first | rfl | (simp;omega),Hb.out⟩
theorem rchange_any (op a:Int) (w:World) :
  Calls Try.prog 54 #[.agg #[.int .u8 op,.int .i64 a]] w fun e w'=>e=.returned (.tuple #[.int .i64 (takesI ⟨op,a⟩),.int .i64 (addsI ⟨op,a⟩ - takesI ⟨op,a⟩)])/\Below w.heap.size w w':=by
 obtain ⟨W2,hW2,hX2,hb2⟩:∃ W2,W2=w.alloc (.cells #[.int .u8 op,.int .i64 a] 47)/\OwnV W2 w.heap.size 47 [.int .u8 op,.int .i64 a]/\Below w.heap.size w W2:=⟨_,rfl,OwnV.new _ _ _,(yR _ _).alloc (zr _) _⟩;have Hb:=zh hb2;obtain ⟨y0,y1⟩:=yc2 hX2;have HW:=zh hW2;obtain ⟨t,ht⟩:∃ t,takesI ⟨op,a⟩=t:=⟨_,rfl⟩;obtain ⟨u,hu⟩:∃ u,addsI ⟨op,a⟩ - takesI ⟨op,a⟩=u:=⟨_,rfl⟩;rw [hu,ht];have Ht:=zh ht;have Hu:=zh hu;clear ht hu hX2 hb2 hW2;have cases':op=1∨op=2∨op=3∨op=4∨op=5∨op=6∨op=7∨op=8∨op=10∨op=12∨op=13∨(op=9/\10<=a)∨(op=9/\a < 10)∨(op≠1/\op≠2/\op≠3/\op≠4/\op≠5/\op≠6/\op≠7/\op≠8/\op≠9/\op≠10/\op≠12/\op≠13):=by omega
 rcases cases' with rfl | rfl | rfl | rfl | rfl | rfl | rfl | rfl | rfl | rfl | rfl | ⟨rfl,s0⟩ | ⟨rfl,s0⟩ | ⟨n1,n2,n3,n4,n5,n6,n7,n8,n9,n10,n12,n13⟩
 ·obtain rfl:t=0:=(by rw [<- Ht.out];simp [takesI];try omega);obtain rfl:u=1:=(by rw [<- Hu.out];simp [takesI,addsI];try omega);go_enter Try.func54,Try.ntmps54
  go_upto_region 1 with (fail)
  rw [<- HW.out];go_wp2_with fail
  exact yE (v:=.tuple #[.int .i64 0,.int .i64 1]) (by simp [results,Try.results54,go_sem]) rfl ⟨rfl,Hb.out⟩
 ·obtain rfl:t=0:=(by rw [<- Ht.out];simp [takesI];try omega);obtain rfl:u=1:=(by rw [<- Hu.out];simp [takesI,addsI];try omega);go_enter Try.func54,Try.ntmps54
  go_upto_region 1 with (fail)
  rw [<- HW.out];go_wp2_with fail
  exact yE (v:=.tuple #[.int .i64 0,.int .i64 1]) (by simp [results,Try.results54,go_sem]) rfl ⟨rfl,Hb.out⟩
 ·obtain rfl:t=1:=(by rw [<- Ht.out];simp [takesI];try omega);obtain rfl:u = -1:=(by rw [<- Hu.out];simp [takesI,addsI];try omega);go_enter Try.func54,Try.ntmps54
  go_upto_region 1 with (fail)
  rw [<- HW.out];go_wp2_with fail
  exact yE (v:=.tuple #[.int .i64 1,.int .i64 (-1)]) (by simp [results,Try.results54,go_sem]) rfl ⟨rfl,Hb.out⟩
 ·obtain rfl:t=1:=(by rw [<- Ht.out];simp [takesI];try omega);obtain rfl:u=0:=(by rw [<- Hu.out];simp [takesI,addsI];try omega);go_enter Try.func54,Try.ntmps54
  go_upto_region 1 with (fail)
  rw [<- HW.out];go_wp2_with fail
  exact yE (v:=.tuple #[.int .i64 1,.int .i64 0]) (by simp [results,Try.results54,go_sem]) rfl ⟨rfl,Hb.out⟩
 ·obtain rfl:t=2:=(by rw [<- Ht.out];simp [takesI];try omega);obtain rfl:u = -2:=(by rw [<- Hu.out];simp [takesI,addsI];try omega);go_enter Try.func54,Try.ntmps54
  go_upto_region 1 with (fail)
  rw [<- HW.out];go_wp2_with fail
  exact yE (v:=.tuple #[.int .i64 2,.int .i64 (-2)]) (by simp [results,Try.results54,go_sem]) rfl ⟨rfl,Hb.out⟩
 ·obtain rfl:t=0:=(by rw [<- Ht.out];simp [takesI];try omega);obtain rfl:u=1:=(by rw [<- Hu.out];simp [takesI,addsI];try omega);go_enter Try.func54,Try.ntmps54
  go_upto_region 1 with (fail)
  rw [<- HW.out];go_wp2_with fail
  exact yE (v:=.tuple #[.int .i64 0,.int .i64 1]) (by simp [results,Try.results54,go_sem]) rfl ⟨rfl,Hb.out⟩
 ·obtain rfl:t=0:=(by rw [<- Ht.out];simp [takesI];try omega);obtain rfl:u=1:=(by rw [<- Hu.out];simp [takesI,addsI];try omega);go_enter Try.func54,Try.ntmps54
  go_upto_region 1 with (fail)
  rw [<- HW.out];go_wp2_with fail
  exact yE (v:=.tuple #[.int .i64 0,.int .i64 1]) (by simp [results,Try.results54,go_sem]) rfl ⟨rfl,Hb.out⟩
 ·obtain rfl:t=1:=(by rw [<- Ht.out];simp [takesI];try omega);obtain rfl:u=0:=(by rw [<- Hu.out];simp [takesI,addsI];try omega);go_enter Try.func54,Try.ntmps54
  go_upto_region 1 with (fail)
  rw [<- HW.out];go_wp2_with fail
  exact yE (v:=.tuple #[.int .i64 1,.int .i64 0]) (by simp [results,Try.results54,go_sem]) rfl ⟨rfl,Hb.out⟩
 ·obtain rfl:t=1:=(by rw [<- Ht.out];simp [takesI];try omega);obtain rfl:u=0:=(by rw [<- Hu.out];simp [takesI,addsI];try omega);go_enter Try.func54,Try.ntmps54
  go_upto_region 1 with (fail)
  rw [<- HW.out];go_wp2_with fail
  exact yE (v:=.tuple #[.int .i64 1,.int .i64 0]) (by simp [results,Try.results54,go_sem]) rfl ⟨rfl,Hb.out⟩
 ·obtain rfl:t=1:=(by rw [<- Ht.out];simp [takesI];try omega);obtain rfl:u = -1:=(by rw [<- Hu.out];simp [takesI,addsI];try omega);go_enter Try.func54,Try.ntmps54
  go_upto_region 1 with (fail)
  rw [<- HW.out];go_wp2_with fail
  exact yE (v:=.tuple #[.int .i64 1,.int .i64 (-1)]) (by simp [results,Try.results54,go_sem]) rfl ⟨rfl,Hb.out⟩
 ·obtain rfl:t=1:=(by rw [<- Ht.out];simp [takesI];try omega);obtain rfl:u = -1:=(by rw [<- Hu.out];simp [takesI,addsI];try omega);go_enter Try.func54,Try.ntmps54
  go_upto_region 1 with (fail)
  rw [<- HW.out];go_wp2_with fail
  exact yE (v:=.tuple #[.int .i64 1,.int .i64 (-1)]) (by simp [results,Try.results54,go_sem]) rfl ⟨rfl,Hb.out⟩
 ·obtain rfl:t=2:=(by rw [<- Ht.out];simp [takesI];try omega);obtain rfl:u = -1:=(by rw [<- Hu.out];simp [takesI,addsI];try omega);go_enter Try.func54,Try.ntmps54
  go_upto_region 1 with (fail)
  rw [<- HW.out];go_wp2_with fail
  exact yE (v:=.tuple #[.int .i64 2,.int .i64 (-1)]) (by simp [results,Try.results54,go_sem]) rfl ⟨rfl,Hb.out⟩
 ·obtain rfl:t=1:=(by rw [<- Ht.out];simp [takesI];try omega);obtain rfl:u=0:=(by rw [<- Hu.out];simp [takesI,addsI];try omega);go_enter Try.func54,Try.ntmps54
  go_upto_region 1 with (fail)
  rw [<- HW.out];go_wp2_with fail
  exact yE (v:=.tuple #[.int .i64 1,.int .i64 0]) (by simp [results,Try.results54,go_sem]) rfl ⟨rfl,Hb.out⟩
 ·obtain rfl:t=0:=(by rw [<- Ht.out];simp [takesI,n1,n2,n3,n4,n5,n6,n7,n8,n9,n10,n12,n13];try omega);obtain rfl:u=0:=(by rw [<- Hu.out];simp [takesI,addsI,n1,n2,n3,n4,n5,n6,n7,n8,n9,n10,n12,n13];try omega);go_enter Try.func54,Try.ntmps54
  go_upto_region 1 with (fail)
  rw [<- HW.out];go_wp2_with fail
  exact yE (v:=.tuple #[.int .i64 0,.int .i64 0]) (by simp [results,Try.results54,go_sem]) rfl ⟨rfl,Hb.out⟩
end Go.Proofs.Ytdeneckmoejcfaa
