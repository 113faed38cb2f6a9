/- marcheslaw12.SizeExpr and Size, walked: where the answer is at most what was left, it is the size. No program's condition but that the names are strings. -/
import Derived.Test.YtoaojdobjinhfaaGreatDoorRLexC
set_option linter.unusedSimpArgs false
set_option linter.unusedVariables false
set_option maxRecDepth 100000
set_option maxHeartbeats 1000000
namespace Go.Proofs.YtoaojdobjinhfaaGreatDoor
open Go.RowKit

theorem zkW (l:List UInt8):(bstr l).size=l.length:=by simp [bstr,ByteArray.size]
theorem zl0:∀ (m:Nat) (op n:Int) (name:List UInt8) (args:List Ex) (v:Value) (w:World) (B left:Nat),szEs args < m→okE (.mk op n name args)→EsL w B args v→B≤w.heap.size→left≤1000 →
  Calls Tryz.prog 19 #[.agg #[.int .u8 op,.int .i64 n,.string (bstr name),v],.int .i64 left] w fun e w'=>(∃ r:Nat,e=.returned (.int .i64 r)∧1≤r∧r≤left+576460752303423488∧(r≤left→r=szE (.mk op n name args)))∧Below w.heap.size w w':=by
 intro m
 induction m with
 | zero=>intro op n name args v w B left h;omega
 | succ m ih =>
  intro op n name args v w B left hm hok hL hB hl;obtain ⟨a,cap,rfl,hc1,hc2⟩:=hL.form;have hnm:name.length≤9223372036854775807:=hok.2.2.1;have hoks:okEs args:=hok.2.2.2;obtain ⟨N,hN⟩:∃ N,(bstr name).size=N:=⟨_,rfl⟩;have hN2:N=name.length:=by rw [← hN,zkW]
  obtain ⟨M,hM⟩:∃ M:Nat,M=N / 30:=⟨_,rfl⟩;have hq:((N:Int).tdiv 30)=M:=by rw [hM,Int.tdiv_eq_ediv_of_nonneg (by omega)];omega
  have hMb:M≤307445734561825861:=by omega
  have Hs:Hid (szE (.mk op n name args)=1+M+szEs args):=zh (by rw [szE,hM,hN2]);have Hoks:=zh hoks;have HL:=zh hL;have Hm:=zh hm;obtain ⟨W1,hW1,hX1,hb1⟩:∃ W1,W1=w.alloc (.cells #[.int .u8 op,.int .i64 n,.string (bstr name),.slice a args.length cap] 29)∧OwnV W1 w.heap.size 29 [.int .u8 op,.int .i64 n,.string (bstr name),.slice a args.length cap]∧Below w.heap.size w W1:=⟨_,rfl,OwnV.new _ _ _,(Below.refl _ _).alloc (zr _) _⟩;have Hb1:=zh hb1;have HX1:=zh hX1;have x2:=hX1.cell (i:=2) rfl;clear hm hok hoks hL hnm hN2 hb1 hX1;go_enter Tryz.func19,Tryz.ntmps19
  go_wp2_with fail
  rw [← hW1];clear hW1;go_loopw [5,6,12,13,14,15,16,17,18,19,20,21,22,23,24,25,26,27,28,29,30,31,32,33,34] (fun t5 t6 _ _ _ _ _ _ _ _ _ _ _ _ _ _ _ _ _ _ _ _ _ _ _ wr=>∃ (k r:Nat),k≤args.length∧t6=.int .i64 k∧t5=.int .i64 r∧1≤r∧r≤left+576460752303423488∧Hid (r≤left→r=1+M+szEs (args.take k))∧Hid (Below W1.heap.size W1 wr)) (fun _ t6 _ _ _ _ _ _ _ _ _ _ _ _ _ _ _ _ _ _ _ _ _ _ _ _=>args.length - (intOf t6).toNat)
  case atStart=>exact ⟨0,1+M,by omega,by first | rfl | go_num,by first | rfl | go_num,by omega,by omega,zh (fun _=>by simp [szEs]),zh (Below.refl _ _)⟩
  case round =>
   obtain ⟨k,r,hk,rfl,rfl,hr1,hr2,HR,HB⟩:=hrel;have hx:=HX1.out.below HB.out (zr _);have hx3:=hx.cell (i:=3) rfl;by_cases hkl:k < args.length
   ·have hki:(k:Int) < (args.length:Int):=by omega
    have hcl:(args.length:Int)≤9223372036854775807:=by omega
    by_cases hrl:r≤left
    ·have hLr:EsL wr B args (.slice a args.length cap):=HL.out.low ((Hb1.out.mono hB).trans (HB.out.mono (Nat.le_trans hB Hb1.out.size)));obtain ⟨b,off,op2,n2,name2,args2,aa,ac,rfl,hbB,hbw,hat,c0,c1,c2,c3,hL2⟩:=hLr.at hkl;have HI:=zh (ih op2 n2 name2 args2 _ wr B (left - r) (by have:=zlL hat;have:=Hm.out;omega) (zgR Hoks.out hat) hL2 (Nat.le_trans hB (Nat.le_trans Hb1.out.size HB.out.size)) (by omega));have Hst:Hid (szEs (args.take (k+1))=szEs (args.take k)+szE (.mk op2 n2 name2 args2)):=zh (zhi hat)
     generalize szE (.mk op2 n2 name2 args2)=Z at *
     have hsub:(left:Int) - r=((left - r:Nat):Int):=by omega
     have hli:(r:Int)≤left:=by omega
     clear hx hLr hat hL2;go_wp2_with fail
     refine HI.out.mono ?_;rintro e2 w2 ⟨⟨r2,rfl,h1,h2,h3⟩,hb2⟩;have H3:=zh h3;have HB2:=zh (HB.out.trans (hb2.mono HB.out.size));clear h3 hb2;go_wp2_with fail
     go_roundw
     case rel=>exact ⟨k+1,r+r2,by omega,by go_num,by go_num,by omega,by omega,zh (fun h=>by have:=HR.out (by omega);have:=H3.out (by omega);have:=Hst.out;omega),HB2⟩
     case measure=>simp [intOf];omega
    ·have hli:¬ (r:Int)≤left:=by omega
     go_wp2_with fail
     go_ret;exact ⟨⟨r,rfl,hr1,hr2,fun h=>by omega⟩,Hb1.out.trans (HB.out.mono Hb1.out.size)⟩
   ·have hki:¬ (k:Int) < (args.length:Int):=by omega
    have hke:k=args.length:=by omega
    go_wp2_with fail
    go_ret;exact ⟨⟨r,rfl,hr1,hr2,fun h=>by have h2:=HR.out h;rw [hke,List.take_length] at h2;have:=Hs.out;omega⟩,Hb1.out.trans (HB.out.mono Hb1.out.size)⟩
end Go.Proofs.YtoaojdobjinhfaaGreatDoor
