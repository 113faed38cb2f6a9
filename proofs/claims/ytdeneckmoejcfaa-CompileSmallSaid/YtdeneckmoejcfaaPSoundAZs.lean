/- The program's Sound: the numbers of instructions, where it goes on, the effects, walked. -/
import Derived.Test.YtdeneckmoejcfaaQFuncZs
import Derived.Test.YtdeneckmoejcfaaSoundSZs
import Derived.Test.YtdeneckmoejcfaaTransMZs
import Derived.Laws.Rows
import Derived.Laws.CopyOwn
set_option linter.unusedSimpArgs false
set_option linter.unusedVariables false
set_option maxRecDepth 100000
set_option maxHeartbeats 4000000
namespace Go.Proofs.Ytdeneckmoejcfaa
open Go.RowKit

theorem inr_any (lo hi op a:Int) (b:Nat) (w:World) (h:OwnV w b 35 [.int .u8 op,.int .i64 a]) :
  Calls Try.prog 63 #[.int .i64 lo,.int .i64 hi,.pointer (some ⟨b,0,none⟩)] w fun e w'=>e=.returned (.bool (decide (lo<=a/\a<=hi)))/\w=w':=by
 have x1:=h.cell (i:=1) rfl;clear h;obtain ⟨p1,p2,q1,q2,hq⟩:∃ p1 p2:Bool,decide (a >= lo)=p1/\decide (a<=hi)=p2/\decide (lo<=a/\a<=hi)=(p1 && p2):=⟨_,_,rfl,rfl,by rw [Bool.decide_and]⟩;rw [hq];clear hq;cases p1 <;> cases p2
 all_goals
  go_enter Try.func63,Try.ntmps63
  go_wp2_with fail
  go_ret;exact ⟨rfl,rfl⟩
def ProgS.cells (p : ProgS) (vc : Value) : List Value := [vc, .int .i64 p.locals, .int .u32 (w32 p.reads), .int .u32 (w32 p.writes)]
theorem prightI_any (p:ProgS) (ac:Option Addr) (cap:Nat) (op a:Int) (w:World) (hl:0<=p.locals/\p.locals<=32) (hlen:p.code.length<=1000000) :
  Calls Try.prog 45 #[zow p (.slice ac p.code.length cap),.agg #[.int .u8 op,.int .i64 a]] w (zbe (decide (rightI p.code.length p.locals ⟨op,a⟩)) w):=by
 obtain ⟨W1,hW1,hX1,hb1⟩:∃ W1,W1=w.alloc (.cells #[.slice ac p.code.length cap,.int .i64 p.locals,.int .u32 (w32 p.reads),.int .u32 (w32 p.writes)] 29)/\OwnV W1 w.heap.size 29 (p.cells (.slice ac p.code.length cap))/\Below w.heap.size w W1:=⟨_,rfl,OwnV.new _ _ _,(yR _ _).alloc (zr _) _⟩;obtain ⟨W2,hW2,hX2,hb2⟩:∃ W2,W2=W1.alloc (.cells #[.int .u8 op,.int .i64 a] 35)/\OwnV W2 W1.heap.size 35 [.int .u8 op,.int .i64 a]/\Below W1.heap.size W1 W2:=⟨_,rfl,OwnV.new _ _ _,(yR _ _).alloc (zr _) _⟩;have HI:=zh (fun lo hi=>inr_any lo hi op a W1.heap.size W2 hX2);have Hb:=zh (hb1.trans (hb2.mono hb1.size));have hX1':=hX1.below hb2 (zr _);have p0:=hX1'.cell (i:=0) (v:=.slice ac p.code.length cap) rfl;have p1:=hX1'.cell (i:=1) (v:=.int .i64 p.locals) rfl;obtain ⟨y0,y1⟩:=yc2 hX2;have HW:=zh hW2;have HW1:=zh hW1;obtain ⟨hl0,hl1⟩:=hl;have hsz1:W1.heap.size=w.heap.size+1:=by rw [hW1];simp
 have Hsz:=zh hsz1;obtain ⟨q,hq⟩:∃ q,decide (rightI p.code.length p.locals ⟨op,a⟩)=q:=⟨_,rfl⟩;have Hq:=zh hq;rw [hq];unfold zow;clear hq hX1 hX1' hX2 hb1 hb2 hW1 hW2 hsz1;have cases':op=1∨op=2∨op=3∨op=4∨op=5∨op=9∨op=11∨op=12∨op=13∨(op≠1/\op≠2/\op≠3/\op≠4/\op≠5/\op≠9/\op≠11/\op≠12/\op≠13):=by omega
 rcases cases' with rfl | rfl | rfl | rfl | rfl | rfl | rfl | rfl | rfl | ⟨n1,n2,n3,n4,n5,n9,n11,n12,n13⟩
 ·have hq:q=true:=by rw [<- Hq.out];simp [rightI]
  subst hq;go_enter Try.func45,Try.ntmps45
  go_upto_region 1 with (fail)
  rw [<- HW1.out,<- HW.out,<- Hsz.out];go_wp2_with fail
  go_ret;exact ⟨rfl,Hb.out⟩
 ·have hq:q=decide ((0:Int)<=a/\a<=p.locals - 1):=by rw [<- Hq.out,Bool.eq_iff_iff,yQ,yQ];unfold rightI;rw [yN (by simp),yP (by simp)];show 0<=a/\a < p.locals ↔ _;omega
  have Hin:=zh (HI.out 0 (p.locals - 1));rw [<- hq] at Hin;clear hq;go_enter Try.func45,Try.ntmps45
  go_upto_region 1 with (fail)
  rw [<- HW1.out,<- HW.out,<- Hsz.out];go_wp2_with fail
  refine Hin.out.mono ?_;rintro e1 w1 ⟨rfl,rfl⟩;go_wp2_with fail
  go_ret;exact ⟨rfl,Hb.out⟩
 ·have hq:q=decide ((0:Int)<=a/\a<=p.locals - 1):=by rw [<- Hq.out,Bool.eq_iff_iff,yQ,yQ];unfold rightI;rw [yN (by simp),yP (by simp)];show 0<=a/\a < p.locals ↔ _;omega
  have Hin:=zh (HI.out 0 (p.locals - 1));rw [<- hq] at Hin;clear hq;go_enter Try.func45,Try.ntmps45
  go_upto_region 1 with (fail)
  rw [<- HW1.out,<- HW.out,<- Hsz.out];go_wp2_with fail
  refine Hin.out.mono ?_;rintro e1 w1 ⟨rfl,rfl⟩;go_wp2_with fail
  go_ret;exact ⟨rfl,Hb.out⟩
 ·have hq:q=decide ((1:Int)<=a/\a<=10):=by rw [<- Hq.out,Bool.eq_iff_iff,yQ,yQ];unfold rightI;rw [yN (by simp),yN (by simp),yP (by simp)]
  have Hin:=zh (HI.out 1 10);rw [<- hq] at Hin;clear hq;go_enter Try.func45,Try.ntmps45
  go_upto_region 1 with (fail)
  rw [<- HW1.out,<- HW.out,<- Hsz.out];go_wp2_with fail
  refine Hin.out.mono ?_;rintro e1 w1 ⟨rfl,rfl⟩;go_wp2_with fail
  go_ret;exact ⟨rfl,Hb.out⟩
 ·have hq:q=decide ((1:Int)<=a/\a<=10):=by rw [<- Hq.out,Bool.eq_iff_iff,yQ,yQ];unfold rightI;rw [yN (by simp),yN (by simp),yP (by simp)]
  have Hin:=zh (HI.out 1 10);rw [<- hq] at Hin;clear hq;go_enter Try.func45,Try.ntmps45
  go_upto_region 1 with (fail)
  rw [<- HW1.out,<- HW.out,<- Hsz.out];go_wp2_with fail
  refine Hin.out.mono ?_;rintro e1 w1 ⟨rfl,rfl⟩;go_wp2_with fail
  go_ret;exact ⟨rfl,Hb.out⟩
 ·obtain ⟨q1,hq1⟩:∃ q1,decide ((7:Int)<=a/\a<=20)=q1:=⟨_,rfl⟩;obtain ⟨q2,hq2⟩:∃ q2,decide ((23:Int)<=a/\a<=24)=q2:=⟨_,rfl⟩
  have hq:q=(q1 || q2):=by
   rw [<- Hq.out,<- hq1,<- hq2,<- Bool.decide_or,Bool.eq_iff_iff,yQ,yQ];unfold rightI;rw [yN (by simp),yN (by simp),yN (by simp),yP (by simp)]
  have Hin1:=zh (HI.out 7 20);have Hin2:=zh (HI.out 23 24);rw [hq1] at Hin1;rw [hq2] at Hin2;subst hq;clear hq1 hq2 HI Hq;cases q1
  ·cases q2
   all_goals
    go_enter Try.func45,Try.ntmps45
    go_upto_region 1 with (fail)
    rw [<- HW1.out,<- HW.out,<- Hsz.out];go_wp2_with fail
    refine Hin1.out.mono ?_;rintro e1 w1 ⟨rfl,rfl⟩;go_wp2_with fail
    refine Hin2.out.mono ?_;rintro e1 w1 ⟨rfl,rfl⟩;go_wp2_with fail
    go_ret;exact ⟨rfl,Hb.out⟩
  ·cases q2
   all_goals
    go_enter Try.func45,Try.ntmps45
    go_upto_region 1 with (fail)
    rw [<- HW1.out,<- HW.out,<- Hsz.out];go_wp2_with fail
    refine Hin1.out.mono ?_;rintro e1 w1 ⟨rfl,rfl⟩;go_wp2_with fail
    go_ret;exact ⟨rfl,Hb.out⟩
 ·have hq:q=decide ((0:Int)<=a/\a<=(p.code.length:Int)):=by rw [<- Hq.out,Bool.eq_iff_iff,yQ,yQ];unfold rightI;rw [yN (by simp),yN (by simp),yN (by simp),yN (by simp),yP (by simp)]
  have Hin:=zh (HI.out 0 p.code.length);rw [<- hq] at Hin;clear hq;go_enter Try.func45,Try.ntmps45
  go_upto_region 1 with (fail)
  rw [<- HW1.out,<- HW.out,<- Hsz.out];go_wp2_with fail
  refine Hin.out.mono ?_;rintro e1 w1 ⟨rfl,rfl⟩;go_wp2_with fail
  go_ret;exact ⟨rfl,Hb.out⟩
 ·have hq:q=decide ((0:Int)<=a/\a<=(p.code.length:Int)):=by rw [<- Hq.out,Bool.eq_iff_iff,yQ,yQ];unfold rightI;rw [yN (by simp),yN (by simp),yN (by simp),yN (by simp),yP (by simp)]
  have Hin:=zh (HI.out 0 p.code.length);rw [<- hq] at Hin;clear hq;go_enter Try.func45,Try.ntmps45
  go_upto_region 1 with (fail)
  rw [<- HW1.out,<- HW.out,<- Hsz.out];go_wp2_with fail
  refine Hin.out.mono ?_;rintro e1 w1 ⟨rfl,rfl⟩;go_wp2_with fail
  go_ret;exact ⟨rfl,Hb.out⟩
 ·have hq:q=decide ((0:Int)<=a/\a<=(p.code.length:Int)):=by rw [<- Hq.out,Bool.eq_iff_iff,yQ,yQ];unfold rightI;rw [yN (by simp),yN (by simp),yN (by simp),yN (by simp),yP (by simp)]
  have Hin:=zh (HI.out 0 p.code.length);rw [<- hq] at Hin;clear hq;go_enter Try.func45,Try.ntmps45
  go_upto_region 1 with (fail)
  rw [<- HW1.out,<- HW.out,<- Hsz.out];go_wp2_with fail
  refine Hin.out.mono ?_;rintro e1 w1 ⟨rfl,rfl⟩;go_wp2_with fail
  go_ret;exact ⟨rfl,Hb.out⟩
 ·obtain ⟨q1,hq1⟩:∃ q1,decide (op >= 1)=q1:=⟨_,rfl⟩;obtain ⟨q2,hq2⟩:∃ q2,decide (op<=15)=q2:=⟨_,rfl⟩;obtain ⟨q3,hq3⟩:∃ q3,(a == 0)=q3:=⟨_,rfl⟩
  have hq:q=(q1 && (q2 && q3)):=by
   rw [<- Hq.out,<- hq1,<- hq2,<- hq3,Bool.eq_iff_iff,yC,yC,yQ,yQ,yQ,beq_iff_eq];unfold rightI;rw [yN (by show ¬ op=1;omega),yN (by show ¬ (op=2∨op=3);omega),yN (by show ¬ (op=4∨op=5);omega),yN (by show ¬ op=9;omega),yN (by show ¬ (11<=op/\op<=13);omega)];show (op=6∨op=7∨op=8∨op=10∨op=14∨op=15)/\a=0 ↔ _;omega
  have e1:(op == 1)=false:=by rw [beq_eq_false_iff_ne];exact n1
  have e2:(op == 2)=false:=by rw [beq_eq_false_iff_ne];exact n2
  have e3:(op == 3)=false:=by rw [beq_eq_false_iff_ne];exact n3
  have e4:(op == 4)=false:=by rw [beq_eq_false_iff_ne];exact n4
  have e5:(op == 5)=false:=by rw [beq_eq_false_iff_ne];exact n5
  have e9:(op == 9)=false:=by rw [beq_eq_false_iff_ne];exact n9
  have e11:(op == 11)=false:=by rw [beq_eq_false_iff_ne];exact n11
  have e12:(op == 12)=false:=by rw [beq_eq_false_iff_ne];exact n12
  have e13:(op == 13)=false:=by rw [beq_eq_false_iff_ne];exact n13
  subst hq;clear n1 n2 n3 n4 n5 n9 n11 n12 n13 HI Hq;cases q1 <;> cases q2 <;> cases q3
  all_goals
   go_enter Try.func45,Try.ntmps45
   go_upto_region 1 with (fail)
   rw [<- HW1.out,<- HW.out,<- Hsz.out];go_wp2_with fail
   go_ret;exact ⟨rfl,Hb.out⟩
theorem sound1_any (p:ProgS) (ac:Option Addr) (cap:Nat) (op a:Int) (pb:Nat) (w:World) (hp:OwnV w pb 29 (p.cells (.slice ac p.code.length cap))) (hl:0<=p.locals/\p.locals<=32) (hlen:p.code.length<=1000000) :
  Calls Try.prog 44 #[.agg #[.int .u8 op,.int .i64 a],.pointer (some ⟨pb,0,none⟩)] w (zbe (!decide (rightI p.code.length p.locals ⟨op,a⟩)) w):=by
 obtain ⟨W1,hW1,hX1,hb1⟩:∃ W1,W1=w.alloc (.cells #[.int .u8 op,.int .i64 a] 35)/\OwnV W1 w.heap.size 35 [.int .u8 op,.int .i64 a]/\Below w.heap.size w W1:=⟨_,rfl,OwnV.new _ _ _,(yR _ _).alloc (zr _) _⟩;have HR:=zh (prightI_any p ac cap op a W1 hl hlen);have hp':=hp.below hb1 (zr _);have p0:=hp'.cell (i:=0) (v:=.slice ac p.code.length cap) rfl;have p1:=hp'.cell (i:=1) (v:=.int .i64 p.locals) rfl;have p2:=hp'.cell (i:=2) (v:=.int .u32 (w32 p.reads)) rfl;have p3:=hp'.cell (i:=3) (v:=.int .u32 (w32 p.writes)) rfl;obtain ⟨y0,y1⟩:=yc2 hX1;have HW1:=zh hW1;have Hb1:=zh hb1;have hs1:=hb1.size
 generalize decide (rightI p.code.length p.locals ⟨op,a⟩)=q at *
 unfold zow at HR;clear hp hp' hX1 hb1 hW1;go_enter Try.func44,Try.ntmps44
 go_upto_region 1 with (fail)
 rw [<- HW1.out];go_wp2_with fail
 refine HR.out.mono ?_;rintro e1 w2 ⟨rfl,hb2⟩;have Hb2:=zh (Hb1.out.trans (hb2.mono hs1));clear hb2;go_wp2_with fail
 go_ret;exact ⟨rfl,Hb2.out⟩
theorem indexI_any (p:ProgS) (ac:Option Addr) (cap:Nat) (pb:Nat) (w:World) (hC:SlC w p.code (.slice ac p.code.length cap)) (hp:OwnV w pb 29 (p.cells (.slice ac p.code.length cap))) (hl:0<=p.locals/\p.locals<=32) (hlen:p.code.length<=1000000) :
  Calls Try.prog 64 #[.slice ac p.code.length cap,.func (.func 44) #[] #[.pointer (some ⟨pb,0,none⟩)]] w fun e w'=>(∃ i:Int,e=.returned (.int .i64 i)/\decide (0<=i)=p.code.any fun z=>!decide (rightI p.code.length p.locals z))/\Below w.heap.size w w':=by
 have HC:=zh hC;have HPp:=zh hp;have HF:=zh (fun op a W hp'=>sound1_any p ac cap op a pb W hp' hl hlen);obtain ⟨f,hf⟩:∃ f:InsS->Bool,f=fun z=>!decide (rightI p.code.length p.locals z):=⟨_,rfl⟩
 rw [<- hf];have Hf:=zh hf;clear hC hp hf
 generalize p.code=c at *
 go_enter Try.func64,Try.ntmps64
 go_wp2_with fail
 go_loopw [4,5,8,9,10,11,12,13,14,15,16,17,18] (fun _ _ t8 _ _ _ _ _ _ _ _ _ _ wr=>∃ k:Nat,k<=c.length/\t8=.int .i64 k/\Hid ((c.take k).any f=false)/\Hid (Below w.heap.size w wr)) (fun _ _ t8 _ _ _ _ _ _ _ _ _ _ _=>c.length - (intOf t8).toNat)
 case atStart=>exact ⟨0,by omega,by first | rfl | go_num,zh (by simp),zh (yR _ _)⟩
 case round =>
  obtain ⟨k,hk,rfl,HA,HB⟩:=hrel;by_cases hkl:k < c.length
  ·have hki:(k:Int) < (c.length:Int):=by omega
   obtain ⟨b,off,rfl,hbw,c0,c1⟩:=(HC.out.below HB.out).at hkl;have Hal:=zh (zfS (yD hkl) HA.out);have HI:=zh (HF.out c[k].op c[k].a wr (HPp.out.below HB.out (zr _)));rw [show (!decide (rightI c.length p.locals ⟨c[k].op,c[k].a⟩))=f c[k] from by rw [Hf.out]] at HI
   generalize f c[k]=q at *
   generalize c[k]=z at *
   cases q with
   | true =>
    have Han:=zh (Hal.out.2 rfl);clear Hal;go_wp2_with fail
    refine HI.out.mono ?_;rintro e2 w2 ⟨rfl,hb2⟩;have HB2:=zh (HB.out.trans (hb2.mono HB.out.size));clear hb2;go_wp2_with fail
    go_ret
    exact ⟨⟨k,rfl,by rw [Han.out,yQ];omega⟩,HB2.out⟩
   | false =>
    have HA2:=zh (Hal.out.1 rfl);clear Hal;go_wp2_with fail
    refine HI.out.mono ?_;rintro e2 w2 ⟨rfl,hb2⟩;have HB2:=zh (HB.out.trans (hb2.mono HB.out.size));clear hb2;go_wp2_with fail
    go_roundw
    case rel=>exact ⟨k+1,by omega,by go_num,HA2,HB2⟩
    case measure=>simp [intOf];omega
  ·have hki:¬ (k:Int) < (c.length:Int):=by omega
   have hke:k=c.length:=by omega
   have HA2:Hid (c.any f=false):=zh (by have:=HA.out;rw [hke,List.take_length] at this;exact this);clear HA;go_wp2_with fail
   go_ret;exact ⟨⟨-1,rfl,by rw [HA2.out];rfl⟩,HB.out⟩
theorem containsI_any (p:ProgS) (ac:Option Addr) (cap:Nat) (pb:Nat) (w:World) (hC:SlC w p.code (.slice ac p.code.length cap)) (hp:OwnV w pb 29 (p.cells (.slice ac p.code.length cap))) (hl:0<=p.locals/\p.locals<=32) (hlen:p.code.length<=1000000) :
  Calls Try.prog 46 #[.slice ac p.code.length cap,.func (.func 44) #[] #[.pointer (some ⟨pb,0,none⟩)]] w (zbe (p.code.any fun z=>!decide (rightI p.code.length p.locals z)) w):=by
 have H:=zh (indexI_any p ac cap pb w hC hp hl hlen)
 generalize (p.code.any fun z=>!decide (rightI p.code.length p.locals z))=q at *
 clear hC hp;go_enter Try.func46,Try.ntmps46
 go_wp2_with fail
 refine H.out.mono ?_;rintro e1 w2 ⟨⟨i,rfl,hi⟩,hb⟩;have Hb:=zh hb;have hi2:decide (i >= 0)=q:=hi;clear hb hi;go_wp2_with fail
 go_ret;exact ⟨by first | rfl | exact retb hi2,Hb.out⟩

def effL : List (Int × Int) := [(0, 0), (0, 1), (0, 1), (1, 0), (1, 1), (2, 0), (0, 1), (0, 1), (1, 1), (1, 1), (1, 1), (0, 0), (1, 0), (1, 0), (0, 0), (0, 0)]
def effC : Array Value := (effL.flatMap fun x => [Value.int .i64 x.1, Value.int .i64 x.2]).toArray
def effV : Value := .agg effC
theorem info_eff:(Try.prog.info? 86).map (·.size)=some effC.size:=by kernel_rfl
theorem effects_any (w:World):Calls Try.prog 47 #[] w fun e w'=>e=.returned effV/\Below w.heap.size w w':=by
 obtain ⟨W1,hW1⟩:∃ W1,W1=w.alloc (.cells (List.replicate 32 (Value.int .i64 0)).toArray 86):=⟨_,rfl⟩;have hX1:W1.heap[w.heap.size]? = some (.cells (List.replicate 32 (Value.int .i64 0)).toArray 86 (0,0)):=by rw [hW1];exact OwnV.new w _ _
 have HW1:=zh hW1;have HX1:=zh hX1;clear hW1 hX1;go_enter Try.func47,Try.ntmps47
 go_upto_region 1 with (fail)
 rw [show w.alloc (.cells #[Value.int IntKind.i64 0,Value.int IntKind.i64 0,Value.int IntKind.i64 0,Value.int IntKind.i64 0,Value.int IntKind.i64 0,Value.int IntKind.i64 0,Value.int IntKind.i64 0,Value.int IntKind.i64 0,Value.int IntKind.i64 0,Value.int IntKind.i64 0,Value.int IntKind.i64 0,Value.int IntKind.i64 0,Value.int IntKind.i64 0,Value.int IntKind.i64 0,Value.int IntKind.i64 0,Value.int IntKind.i64 0,Value.int IntKind.i64 0,Value.int IntKind.i64 0,Value.int IntKind.i64 0,Value.int IntKind.i64 0,Value.int IntKind.i64 0,Value.int IntKind.i64 0,Value.int IntKind.i64 0,Value.int IntKind.i64 0,Value.int IntKind.i64 0,Value.int IntKind.i64 0,Value.int IntKind.i64 0,Value.int IntKind.i64 0,Value.int IntKind.i64 0,Value.int IntKind.i64 0,Value.int IntKind.i64 0,Value.int IntKind.i64 0] 86)=W1 from HW1.out.symm];go_wp2_with (refine wpList_store_row rfl 86 (.tmp 0) (.tmp 13) rfl w.heap.size effC ?ca ?cb 86 _ HX1.out info_eff ?cc ?cd ?_)
 case ca=>rfl
 case cb=>rfl
 case cc=>rfl
 case cd=>simp [effC,effL,Value.oneCell']
 refine yE (v:=effV) (results_cell_row rfl _ _ w.heap.size 86 effC (0,0) _ rfl (setRow_heap W1 w.heap.size _ effC 86 (0,0) HX1.out) Try.underlying86 rfl info_eff) rfl ⟨rfl,?_⟩;refine below_setRow ?_ (zr _) _;rw [HW1.out];exact (yR _ _).alloc (zr _) _
theorem eff_index (op:Int) (h:1<=op/\op<=15):∀ u:World,(Instr.index 86 effV (.int .u8 op)).run Try.prog u=.ok (.agg #[.int .i64 (takesI ⟨op,0⟩),.int .i64 (addsI ⟨op,0⟩)]) u:=by
 intro u;have hcases:op=1∨op=2∨op=3∨op=4∨op=5∨op=6∨op=7∨op=8∨op=9∨op=10∨op=11∨op=12∨op=13∨op=14∨op=15:=by omega
 rcases hcases with rfl | rfl | rfl | rfl | rfl | rfl | rfl | rfl | rfl | rfl | rfl | rfl | rfl | rfl | rfl
 all_goals (show _=_;kernel_rfl)
def nextZ (k : Nat) (i : InsS) : List Int := if i.op = 11 then [i.a] else if i.op = 12 ∨ i.op = 13 then [(k : Int) + 1, i.a] else if i.op = 14 ∨ i.op = 15 then [] else [(k : Int) + 1]
theorem nextZ_eq {n l:Int} {i:InsS} (h:rightI n l i) (k:Nat):nextZ k i=(nextsI k i).map fun (x:Nat)=>(x:Int):=by
 unfold nextZ nextsI;split
 ·have:=right_jump h (by omega);simp;omega
 ·split
  ·have:=right_jump h (by omega);simp;omega
  ·split
   ·rfl
   ·simp
theorem ints_new (w:World) (xs:List Int) (h:xs.length<=1000):Ints (w.alloc (.cells (xs.map (Value.int .i64)).toArray 3)) xs (.slice (some ⟨w.heap.size,0,none⟩) xs.length xs.length):=
 Sl.of_own ((OwnV.new w 3 (xs.map (Value.int .i64))).own (zr _) (by simp) rfl (by unfold maxLen;omega))
def NextQ (w : World) (xs : List Int) (e : Ending) (w' : World) : Prop := ∃ a cap, e = .returned (.slice a xs.length cap) /\ Ints w' xs (.slice a xs.length cap) /\ Below w.heap.size w w' /\ ∀ g, (Value.slice a xs.length cap).ownBlock = some g -> w.heap.size <= g
theorem nextq_any (op a:Int) (k:Nat) (w:World) (hk:k<=1000000):Calls Try.prog 48 #[.agg #[.int .u8 op,.int .i64 a],.int .i64 k] w (NextQ w (nextZ k ⟨op,a⟩)):=by
 obtain ⟨W1,hW1,hX1,hb1⟩:∃ W1,W1=w.alloc (.cells #[.int .u8 op,.int .i64 a] 35)/\OwnV W1 w.heap.size 35 [.int .u8 op,.int .i64 a]/\Below w.heap.size w W1:=⟨_,rfl,OwnV.new _ _ _,(yR _ _).alloc (zr _) _⟩;obtain ⟨y0,y1⟩:=yc2 hX1;have HW1:=zh hW1;have Hb1:=zh hb1;have hs1:=hb1.size;obtain ⟨zs,hzs⟩:∃ zs,nextZ k ⟨op,a⟩=zs:=⟨_,rfl⟩;have Hz:=zh hzs;rw [hzs];clear hzs hX1 hb1 hW1;have hcases:op=11∨op=12∨op=13∨op=14∨op=15∨(op≠11/\op≠12/\op≠13/\op≠14/\op≠15):=by omega
 rcases hcases with rfl | rfl | rfl | rfl | rfl | ⟨n11,n12,n13,n14,n15⟩
 case' inl =>
  have hz:zs=[a]:=by rw [<- Hz.out];rfl
 case' inr.inl=>have hz:zs=[(k:Int)+1,a]:=by rw [<- Hz.out];rfl
 case' inr.inr.inl=>have hz:zs=[(k:Int)+1,a]:=by rw [<- Hz.out];rfl
 case' inr.inr.inr.inl=>have hz:zs=[]:=by rw [<- Hz.out];rfl
 case' inr.inr.inr.inr.inl=>have hz:zs=[]:=by rw [<- Hz.out];rfl
 case' inr.inr.inr.inr.inr =>
  have hz:zs=[(k:Int)+1]:=by
   rw [<- Hz.out,nextZ,yN (by show ¬ op=11;exact n11),yN (by show ¬ (op=12∨op=13);omega),yN (by show ¬ (op=14∨op=15);omega)]
  have e11:(op == 11)=false:=by rw [beq_eq_false_iff_ne];exact n11
  have e12:(op == 12)=false:=by rw [beq_eq_false_iff_ne];exact n12
  have e13:(op == 13)=false:=by rw [beq_eq_false_iff_ne];exact n13
  have e14:(op == 14)=false:=by rw [beq_eq_false_iff_ne];exact n14
  have e15:(op == 15)=false:=by rw [beq_eq_false_iff_ne];exact n15
  clear n11 n12 n13 n14 n15
 all_goals
  subst hz;go_enter Try.func48,Try.ntmps48
  go_upto_region 1 with (fail)
  rw [<- HW1.out];go_wp2_with fail
  go_ret
  first
  | exact ⟨_,_,rfl,ints_new W1 [_] (by simp),Hb1.out.alloc hs1 _,fun g hg=>by cases hg;exact hs1⟩
  | exact ⟨_,_,rfl,ints_new W1 [_,_] (by simp),Hb1.out.alloc hs1 _,fun g hg=>by cases hg;exact hs1⟩
  | exact ⟨_,_,rfl,Sl.nil _ 1,Hb1.out,fun g hg=>by cases hg⟩
end Go.Proofs.Ytdeneckmoejcfaa
