/- marchesref13.Masks, walked. -/
import Derived.Test.YtdeneckmoejcfaaRCodeZs
set_option linter.unusedSimpArgs false
set_option linter.unusedVariables false
set_option maxRecDepth 100000
set_option maxHeartbeats 1000000
namespace Go.Proofs.Ytdeneckmoejcfaa
open Go.RowKit

theorem rmasks_any (c:znA) (v:Value) (w:World) (hC:SlC w c v) (hl:c.length<=1000000) :
  Calls Try.prog 17 #[v] w fun e w'=>e=.returned (.tuple #[.int .u32 (w32 (znW 4 c)),.int .u32 (w32 (znW 5 c))])/\w'=w:=by
 obtain ⟨a,cap,rfl,_,_⟩:=Sl.form hC;have HC:=zh hC;clear hC;go_enter Try.func17,Try.ntmps17
 go_wp2_with fail
 obtain ⟨wq,rfl⟩:∃ wq:World,wq=w:=⟨_,rfl⟩;go_loopw [4,5,6,7,8,9,10,11,12,13,14,15,16,17,18,19,20,21,22,23,24,25,26,27,28,29,30,31,32,33,34,35,36,37,38,39,40,41,42,43,44,45,46,47,48,49,50,51,52,53,54,55] (fun t4 t5 t6 _ _ _ _ _ _ _ _ _ _ _ _ _ _ _ _ _ _ _ _ _ _ _ _ _ _ _ _ _ _ _ _ _ _ _ _ _ _ _ _ _ _ _ _ _ _ _ _ _ wr=>∃ (k:Nat) (x y:BitVec 32),1<=k/\k<=32/\t6=.int .i64 k/\t4=.int .u32 (w32 x)/\t5=.int .u32 (w32 y)/\Hid (IsMask x (atM 4 c k 0))/\Hid (IsMask y (atM 5 c k 0))/\wr=wq) (fun _ _ t6 _ _ _ _ _ _ _ _ _ _ _ _ _ _ _ _ _ _ _ _ _ _ _ _ _ _ _ _ _ _ _ _ _ _ _ _ _ _ _ _ _ _ _ _ _ _ _ _ _ _=>32 - (intOf t6).toNat)
 case atStart=>exact ⟨1,0,0,by omega,by omega,by first | rfl | go_num,by first | rfl | go_num,by first | rfl | go_num,zh (IsMask.zero.of fun j _=>(atM_start 4 c j).symm),zh (IsMask.zero.of fun j _=>(atM_start 5 c j).symm),rfl⟩
 case round =>
  obtain ⟨k,x,y,hk1,hk,rfl,rfl,rfl,HX,HY,hwr⟩:=hrel;have hwr':=hwr.symm;subst hwr';clear hwr;by_cases hlt:k < 32
  ·have hki:(k:Int) < 32:=by omega
   go_wp2_with fail
   go_loopw [4,5,7,12,13,14,15,16,17,18,19,20,21,22,23,24,25,26,27,28,29,30,31,32,33,34,35,36,37,38,39,40,41,42,43,44,45,46,47,48,49,50,51,52,53,54,55] (fun t4 t5 t7 _ _ _ _ _ _ _ _ _ _ _ _ _ _ _ _ _ _ _ _ _ _ _ _ _ _ _ _ _ _ _ _ _ _ _ _ _ _ _ _ _ _ _ _ wr=>∃ (i:Nat) (x y:BitVec 32),i<=c.length/\t7=.int .i64 i/\t4=.int .u32 (w32 x)/\t5=.int .u32 (w32 y)/\Hid (IsMask x (atM 4 c k i))/\Hid (IsMask y (atM 5 c k i))/\wr=wq) (fun _ _ t7 _ _ _ _ _ _ _ _ _ _ _ _ _ _ _ _ _ _ _ _ _ _ _ _ _ _ _ _ _ _ _ _ _ _ _ _ _ _ _ _ _ _ _ _ _=>c.length - (intOf t7).toNat)
   case atStart=>exact ⟨0,x,y,by omega,by first | rfl | go_num,rfl,rfl,HX,HY,rfl⟩
   case round =>
    obtain ⟨i,x,y,hi,rfl,rfl,rfl,HX,HY,hwr⟩:=hrel;have hwr':=hwr.symm;subst hwr';clear hwr;by_cases hil:i < c.length
    ·have hii:(i:Int) < (c.length:Int):=by omega
     obtain ⟨b,off,rfl,hbw,c0,c1⟩:=HC.out.at hil;have Hy4:=zh (fun h=>atM_yes (op:=4) hil h HX.out);have Hn4:=zh (fun h=>atM_no (op:=4) hil h HX.out);have Hy5:=zh (fun h=>atM_yes (op:=5) hil h HY.out);have Hn5:=zh (fun h=>atM_no (op:=5) hil h HY.out)
     generalize c[i]=z at *
     obtain ⟨op,av⟩:=z;have Hsx:Hid (bits .or .u32 (w32 x) (IntKind.u32.wrap (2 ^ k))=w32 (x ||| zoB k)):=zh (by rw [zrm hlt,zoE]);have Hsy:Hid (bits .or .u32 (w32 y) (IntKind.u32.wrap (2 ^ k))=w32 (y ||| zoB k)):=zh (by rw [zrm hlt,zoE]);obtain ⟨p4,hp4⟩:∃ q:Bool,(op == 4)=q:=⟨_,rfl⟩;obtain ⟨p5,hp5⟩:∃ q:Bool,(op == 5)=q:=⟨_,rfl⟩;obtain ⟨pa,hpa⟩:∃ q:Bool,(av == (k:Int))=q:=⟨_,rfl⟩;have H4:Hid (op=4 ↔ p4=true):=zh (by rw [<- hp4,beq_iff_eq]);have H5:Hid (op=5 ↔ p5=true):=zh (by rw [<- hp5,beq_iff_eq]);have HA:Hid (av=(k:Int) ↔ pa=true):=zh (by rw [<- hpa,beq_iff_eq]);cases p4 <;> cases p5 <;> cases pa
     all_goals
      first | (exfalso;have h1:=H4.out.2 rfl;have h2:=H5.out.2 rfl;omega) | skip
     all_goals
      go_wp2_with fail
      go_roundw
      case rel =>
       first
       | exact ⟨i+1,x,y,by omega,by go_num,rfl,rfl,zh (Hn4.out (by rw [H4.out,HA.out];decide)),zh (Hn5.out (by rw [H5.out,HA.out];decide)),by first | rfl | trivial⟩
       | exact ⟨i+1,x ||| zoB k,y,by omega,by go_num,by rw [<- Hsx.out];first | rfl | go_num,rfl,zh (Hy4.out (by rw [H4.out,HA.out];decide)),zh (Hn5.out (by rw [H5.out,HA.out];decide)),by first | rfl | trivial⟩
       | exact ⟨i+1,x,y ||| zoB k,by omega,by go_num,rfl,by rw [<- Hsy.out];first | rfl | go_num,zh (Hn4.out (by rw [H4.out,HA.out];decide)),zh (Hy5.out (by rw [H5.out,HA.out];decide)),by first | rfl | trivial⟩
      case measure=>simp [intOf];omega
    ·have hii:¬ (i:Int) < (c.length:Int):=by omega
     obtain rfl:i=c.length:=by omega
     go_wp2_with fail
     go_roundw
     case rel=>exact ⟨k+1,x,y,by omega,by omega,by go_num,rfl,rfl,zh (HX.out.of fun j _=>atM_next 4 c k hk1 j),zh (HY.out.of fun j _=>atM_next 5 c k hk1 j),by first | rfl | trivial⟩
     case measure=>simp [intOf];omega
  ·have hki:¬ (k:Int) < 32:=by omega
   obtain rfl:k=32:=by omega
   obtain rfl:x=znW 4 c:=(HX.out.of (atM_end 4 c)).ext (maskC_is 4 c);obtain rfl:y=znW 5 c:=(HY.out.of (atM_end 5 c)).ext (maskC_is 5 c);go_wp2_with fail
   exact yE (v:=.tuple #[.int .u32 (w32 (znW 4 c)),.int .u32 (w32 (znW 5 c))]) (by simp [results,Try.results17,go_sem]) rfl ⟨rfl,rfl⟩
end Go.Proofs.Ytdeneckmoejcfaa
