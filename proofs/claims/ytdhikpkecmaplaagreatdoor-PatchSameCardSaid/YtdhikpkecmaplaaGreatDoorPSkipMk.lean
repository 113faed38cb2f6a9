/- The program's lexer: skip, walked, once for each function that it is given. No condition but the bounds of a source. -/
import Derived.Test.YtdhikpkecmaplaaGreatDoorLexMMk
import Derived.Test.YtdhikpkecmaplaaGreatDoorOnlyMk
import Derived.Deep.LoopGhost
import Derived.Shelf.Abstract
set_option linter.unusedSimpArgs false
set_option linter.unusedVariables false
set_option maxRecDepth 100000
set_option maxHeartbeats 2000000
namespace Go.Proofs.YtdhikpkecmaplaaGreatDoor
open Go.RowKit

def Scan (w : World) (b : Nat) (line col : Int) (src : ByteArray) (at' : Nat) : Prop := OwnV w b 220 [.int .i64 line, .int .i64 col, .string src, .int .i64 at']
def zbF (b : Nat) (src : ByteArray) (at' n : Nat) (line col : Int) (S : Nat -> Prop) (w : World) (e : Ending) (w' : World) : Prop :=
  e = .returned (.string (bstr ((src.data.toList.drop at').take n))) /\ Scan w' b (posS ((src.data.toList.drop at').take n) line col).1 (posS ((src.data.toList.drop at').take n) line col).2 src (at' + n) /\ Only S w w'
theorem Scan.cells {w:World} {b:Nat} {line col:Int} {src:ByteArray} {at':Nat} (h:Scan w b line col src at') :
  w.cell? ⟨b,0,none⟩=some (.int .i64 line)/\w.cell? ⟨b,1,none⟩=some (.int .i64 col)/\w.cell? ⟨b,2,none⟩=some (.string src)/\w.cell? ⟨b,3,none⟩=some (.int .i64 at')/\(∀ o,w.frozen? ⟨b,o,none⟩=false):=
 ⟨OwnV.cell h rfl,OwnV.cell h rfl,OwnV.cell h rfl,OwnV.cell h rfl,fun o=>OwnV.free h o⟩
theorem zex {p:Nat->UInt8->Bool} {s:ByteArray} {j:Nat} (h:j < s.size) (k:Nat):runK p k (s.data.toList.drop j)=if p k s[j]=true then runK p (k+1) (s.data.toList.drop (j+1))+1 else 0:=by
 rw [za2 s h,runK]
theorem zfk {p:Nat->UInt8->Bool} {s:ByteArray} {j:Nat} (h:s.size<=j) (k:Nat):runK p k (s.data.toList.drop j)=0:=by
 rw [zdf s h,runK]
theorem zey {s:ByteArray} {j m:Nat} (h:j < s.size) (l c:Int):posS ((s.data.toList.drop j).take (m+1)) l c=if s[j].toNat=10 then posS ((s.data.toList.drop (j+1)).take m) (l+1) 1 else posS ((s.data.toList.drop (j+1)).take m) l (c+1):=by
 rw [za2 s h,List.take_succ_cons,posS]

theorem skip_gen {b:Nat} {src:ByteArray} {at':Nat} {line col:Int} {w:World} {f:Nat} {cl:Array Value} (p:Nat->UInt8->Bool) (S:Nat->Prop) (I:Nat->World->Prop) (hb:S b)
  (he:∀ args w,(callFunc f args).run Tryz.prog w=.ok (.enter f args) w) (hI:∀ k W W',I k W->Only (fun g=>g=b) W W'->I k W')
  (hC:∀ k (x:UInt8) W,k<=16384->I k W->Calls Tryz.prog f (#[.int .u8 (x.toNat:Int)]++cl) W fun e w'=>e=.returned (.bool (p k x))/\I (k+1) w'/\Only (fun g=>S g/\g≠b) W w')
  (h0:I 0 w) (hS:Scan w b line col src at') (hat:at'<=src.size) (hsz:src.size<=16384) (hl:0<=line/\line<=at'+1) (hc:0<=col/\col<=at'+1) :
  Calls Tryz.prog 162 #[.pointer (some ⟨b,0,none⟩),.func (.func f) #[] cl] w (zbF b src at' (runK p 0 (src.data.toList.drop at')) line col S w):=by
 obtain ⟨N,HN⟩:∃ N,Hid (runK p 0 (src.data.toList.drop at')=N):=⟨_,zh rfl⟩;obtain ⟨L,C,HP⟩:∃ L C,Hid (posS ((src.data.toList.drop at').take N) line col=(L,C)):=⟨_,_,zh rfl⟩;have hNle:N<=src.size - at':=by have:=zfi p (src.data.toList.drop at') 0;rw [HN.out,List.length_drop,zaq] at this;exact this
 have HE:Hid (∀ e w',e=.returned (.string (src.extract at' (at'+N)))->Scan w' b L C src (at'+N)->Only S w w'->zbF b src at' (runK p 0 (src.data.toList.drop at')) line col S w e w'):=zh (by
  intro e w' h1 h2 h3;unfold zbF;rw [HN.out,HP.out]
  exact ⟨by rw [h1,zbk,Nat.add_sub_cancel_left],h2,h3⟩)
 obtain ⟨R,hR⟩:∃ R,R=zbF b src at' (runK p 0 (src.data.toList.drop at')) line col S w:=⟨_,rfl⟩;rw [<- hR] at HE ⊢;clear hR;obtain ⟨c0,c1,c2,c3,cf⟩:=hS.cells;have HS:=zh hS;have HC:=zh hC;have HIo:=zh hI;have Hen:=zh he;have HI0:=zh h0;have Hb:=zh hb;clear hS hC hI h0 hb he;go_enter Tryz.func162,Tryz.ntmps162
 go_wp2_with fail
 clear c0 c1 c2 c3 cf;go_loopg [10,11,12,13,14,15,16,17,18,19,20,21,22,23,24,25,26,27,28,29,30,31,32,33,34,35,36,37,38,39,40,41,42,43,44,45,46,47,48,49,50,51,52,53,54,55,56,57,58,59,60,61,62,63,64,65,66,67,68] (N) (fun g _ _ _ _ _ _ _ _ _ _ _ _ _ _ _ _ _ _ _ _ _ _ _ _ _ _ _ _ _ _ _ _ _ _ _ _ _ _ _ _ _ _ _ _ _ _ _ _ _ _ _ _ _ _ _ _ _ _ _ wr=>∃ (k j:Nat) (line1 col1:Int),Hid (j=at'+k)/\g=N - k/\k<=N/\Hid (runK p k (src.data.toList.drop j)+k=N)/\Hid (posS ((src.data.toList.drop j).take (N - k)) line1 col1=(L,C))/\(0<=line1/\line1<=j+1)/\(0<=col1/\col1<=j+1)/\Hid (Scan wr b line1 col1 src j)/\Hid (Only S w wr)/\Hid (I k wr))
 case atStart=>exact ⟨0,at',line,col,zh rfl,by omega,by omega,zh (by rw [Nat.add_zero];exact HN.out),zh HP.out,hl,hc,zh HS.out,zh (Only.refl _ _),zh HI0.out⟩
 case round =>
  obtain ⟨k,j,line1,col1,Hj,rfl,hkN,HR,HQ,⟨hl0,hl1⟩,⟨hc0,hc1⟩,HS,HO,HK⟩:=hrel;obtain ⟨c0,c1,c2,c3,cf⟩:=HS.out.cells;have hkb:k<=16384:=by omega
  by_cases hlt:j < src.size
  ·obtain ⟨q,HQq,HQ2⟩:∃ q:Bool,Hid (p k src[j]=q)/\Hid (runK p k (src.data.toList.drop j)=if q=true then runK p (k+1) (src.data.toList.drop (j+1))+1 else 0):=⟨_,zh rfl,zh (zex hlt k)⟩;have hb0:src[j].toNat<=255:=by have:=src[j].toNat_lt;omega
   have hj3:(0:Int)<=(j:Int):=by omega
   go_wp2_with fail
   refine zaW 21 (DrewOf wr) (by kernel_rfl) (by kernel_rfl) (DrewOf.start _) ?_;simp only [List.take_succ_cons,List.take_zero,List.drop_succ_cons,List.drop_zero]
   repeat
    try simp only [Act.put,zs1,zs3,zs2]
    apply stepsSeq.cons
    ·rintro w' ⟨nq,rfl⟩;simp only [Act.put,zs1,zs3,zs2];go_wp2_with (fail)
     first | exact ⟨rfl,nq,rfl⟩ | exact ⟨rfl,nq,(World.drewN_drewN _ _ _).symm⟩ | exact ⟨rfl,nq,by simp⟩
   try simp only [Act.put,zs1,zs3,zs2]
   refine stepsSeq.nil ?_;rintro w' ⟨nq,rfl⟩;go_wp2_with fail
   rw [Hen.out,Oper.upon_enter];refine (HC.out k src[j] _ hkb (HIo.out k _ _ HK.out ((Only.refl (fun g=>g=b) wr).drewN nq))).mono ?_;rintro e1 w2 ⟨rfl,hK2,hO2⟩;have HS2:Hid (Scan w2 b line1 col1 src j):=zh (hO2.own (HS.out.drewN nq) (fun h=>h.2 rfl));have HO2:=zh ((HO.out.drewN nq).trans (hO2.mono fun _ _ h=>h.1));have HK2:=zh hK2;clear hK2 hO2 c0 c1 c2 c3 cf;obtain ⟨c0,c1,c2,c3,cf⟩:=HS2.out.cells;rw [HQq.out];cases q
   ·have Hk0:Hid (k=N):=zh (by have h1:=HQ2.out;have h2:=HR.out;rw [yN (by decide)] at h1;omega);have HX:Hid (line1=L/\col1=C):=zh (by have h:=HQ.out;rw [Hk0.out,Nat.sub_self,List.take_zero] at h;simpa [posS] using h);go_wp2_with fail
    have hja:at'<=j:=by have:=Hj.out;omega
    have hja':(at':Int)<=(j:Int):=by omega
    have hjs:j<=src.size:=by omega
    have hjs':(j:Int)<=(src.size:Int):=by omega
    have hj0:(0:Int)<=(at':Int):=by omega
    refine zac (DrewOf _) (by kernel_rfl) (by kernel_rfl) (DrewOf.start _) ?_
    repeat
     try simp only [Act.put,zs1,zs3,zs2]
     apply stepsSeq.cons
     ·rintro w' ⟨nq,rfl⟩;simp only [Act.put,zs1,zs3,zs2];go_wp2_with (fail)
      first | exact ⟨rfl,nq,rfl⟩ | exact ⟨rfl,nq,(World.drewN_drewN _ _ _).symm⟩ | exact ⟨rfl,nq,by simp⟩
    try simp only [Act.put,zs1,zs3,zs2]
    refine stepsSeq.nil ?_;rintro w' ⟨nq,rfl⟩;go_wp2_with fail
    try go_ret
    obtain rfl:j=at'+N:=by have h1:=Hj.out;have h2:=Hk0.out;omega
    exact HE.out _ _ rfl (by obtain ⟨rfl,rfl⟩:=HX.out;exact HS2.out.drewN _) (HO2.out.drewN _)
   ·have hk1:k+1<=N:=by have h1:=HQ2.out;have h2:=HR.out;rw [yP rfl] at h1;omega
    have HR':Hid (runK p (k+1) (src.data.toList.drop (j+1))+(k+1)=N):=zh (by have h1:=HQ2.out;have h2:=HR.out;rw [yP rfl] at h1;omega)
    obtain ⟨t,ht,HQ'⟩:∃ t:Bool,((src[j].toNat:Int) == 10)=t/\Hid (posS ((src.data.toList.drop (j+1)).take (N - (k+1))) (if t=true then line1+1 else line1) (if t=true then 1 else col1+1)=(L,C)):=⟨_,rfl,zh (by
     have h:=HQ.out;rw [show N - k=(N - (k+1))+1 by omega,zey hlt] at h;by_cases e:src[j].toNat=10
     ·have e2:((src[j].toNat:Int) == 10)=true:=by simp [e]
      rw [yP e] at h;rw [e2];exact h
     ·have e2:((src[j].toNat:Int) == 10)=false:=by rw [beq_eq_false_iff_ne];omega
      rw [yN e] at h;rw [e2];exact h)⟩
    clear HR HQ HQ2;cases t
    all_goals
     go_wp2_with fail
     refine zac (DrewOf _) (by kernel_rfl) (by kernel_rfl) (DrewOf.start _) ?_
     repeat
      try simp only [Act.put,zs1,zs3,zs2]
      apply stepsSeq.cons
      ·rintro w' ⟨nq,rfl⟩;simp only [Act.put,zs1,zs3,zs2];go_wp2_with (fail)
       first | exact ⟨rfl,nq,rfl⟩ | exact ⟨rfl,nq,(World.drewN_drewN _ _ _).symm⟩ | exact ⟨rfl,nq,by simp⟩
     try simp only [Act.put,zs1,zs3,zs2]
     refine stepsSeq.nil ?_;rintro w' ⟨nq,rfl⟩;go_wp2_with fail
     go_roundg (N - (k+1))
     case measure=>omega
     case rel =>
      first
       | exact ⟨k+1,j+1,line1,col1+1,zh (by have:=Hj.out;omega),rfl,hk1,HR',HQ',by omega,by omega,zh (((HS2.out.set 1 _).drewN _).set 3 _),zh (((HO2.out.setIn Hb.out _).drewN _).setIn Hb.out _),zh (HIo.out _ _ _ HK2.out ((((Only.refl (fun g=>g=b) w2).setIn rfl _).drewN _).setIn rfl _))⟩
       | exact ⟨k+1,j+1,line1+1,1,zh (by have:=Hj.out;omega),rfl,hk1,HR',HQ',by omega,by omega,zh (((((HS2.out.set 1 _).drewN _).set 0 _).set 1 _).set 3 _),zh (((((HO2.out.setIn Hb.out _).drewN _).setIn Hb.out _).setIn Hb.out _).setIn Hb.out _),zh (HIo.out _ _ _ HK2.out ((((((Only.refl (fun g=>g=b) w2).setIn rfl _).drewN _).setIn rfl _).setIn rfl _).setIn rfl _))⟩
  ·have Hk0:Hid (k=N):=zh (by have h2:=HR.out;rw [zfk (by omega)] at h2;omega);have HX:Hid (line1=L/\col1=C):=zh (by have h:=HQ.out;rw [Hk0.out,Nat.sub_self,List.take_zero] at h;simpa [posS] using h);have hja:at'<=j:=by have:=Hj.out;omega
   have hja':(at':Int)<=(j:Int):=by omega
   have hj2:j<=src.size:=by have:=Hj.out;have:=Hk0.out;omega
   have hj2':(j:Int)<=(src.size:Int):=by omega
   have hj0:(0:Int)<=(at':Int):=by omega
   have hj1:(0:Int)<=(j:Int):=by omega
   go_wp2_with fail
   refine zac (DrewOf _) (by kernel_rfl) (by kernel_rfl) (DrewOf.start _) ?_
   repeat
    try simp only [Act.put,zs1,zs3,zs2]
    apply stepsSeq.cons
    ·rintro w' ⟨nq,rfl⟩;simp only [Act.put,zs1,zs3,zs2];go_wp2_with (fail)
     first | exact ⟨rfl,nq,rfl⟩ | exact ⟨rfl,nq,(World.drewN_drewN _ _ _).symm⟩ | exact ⟨rfl,nq,by simp⟩
   try simp only [Act.put,zs1,zs3,zs2]
   refine stepsSeq.nil ?_;rintro w' ⟨nq,rfl⟩;go_wp2_with fail
   refine zac (DrewOf _) (by kernel_rfl) (by kernel_rfl) (DrewOf.start _) ?_
   repeat
    try simp only [Act.put,zs1,zs3,zs2]
    apply stepsSeq.cons
    ·rintro w' ⟨nq,rfl⟩;simp only [Act.put,zs1,zs3,zs2];go_wp2_with (fail)
     first | exact ⟨rfl,nq,rfl⟩ | exact ⟨rfl,nq,(World.drewN_drewN _ _ _).symm⟩ | exact ⟨rfl,nq,by simp⟩
   try simp only [Act.put,zs1,zs3,zs2]
   refine stepsSeq.nil ?_;rintro w' ⟨nq,rfl⟩;go_wp2_with fail
   try go_ret
   obtain rfl:j=at'+N:=by have h1:=Hj.out;have h2:=Hk0.out;omega
   exact HE.out _ _ rfl (by obtain ⟨rfl,rfl⟩:=HX.out;exact HS.out) ((HO.out.drewN _).drewN _)
theorem skip_still {b:Nat} {src:ByteArray} {at':Nat} {line col:Int} {w:World} {f:Nat} {p:UInt8->Bool} (he:∀ args w,(callFunc f args).run Tryz.prog w=.ok (.enter f args) w) (hC:∀ (x:UInt8) W,Calls Tryz.prog f #[.int .u8 (x.toNat:Int)] W fun e w'=>e=.returned (.bool (p x))/\W=w')
  (hS:Scan w b line col src at') (hat:at'<=src.size) (hsz:src.size<=16384) (hl:0<=line/\line<=at'+1) (hc:0<=col/\col<=at'+1) :
  Calls Tryz.prog 162 #[.pointer (some ⟨b,0,none⟩),.func (.func f) #[] #[]] w (zbF b src at' (runK (fun _=>p) 0 (src.data.toList.drop at')) line col (fun g=>g=b) w):=
 skip_gen (fun _=>p) (fun g=>g=b) (fun _ _=>True) rfl he (fun _ _ _ _ _=>trivial) (fun k x W _ _=>(hC x W).mono (by rintro e w' ⟨rfl,rfl⟩;exact ⟨rfl,trivial,Only.refl _ _⟩)) trivial hS hat hsz hl hc
theorem zgj (b:Nat) (src:ByteArray) (at':Nat) (line col:Int) (w:World) (hS:Scan w b line col src at') (hat:at'<=src.size) (hsz:src.size<=16384) (hl:0<=line/\line<=at'+1) (hc:0<=col/\col<=at'+1) :
  Calls Tryz.prog 162 #[.pointer (some ⟨b,0,none⟩),.func (.func 200) #[] #[]] w (zbF b src at' (runK (fun _=>zbi) 0 (src.data.toList.drop at')) line col (fun g=>g=b) w):=skip_still (enters_of Tryz.func200 (by kernel_rfl) rfl) (fun x W=>zg1 _ W) hS hat hsz hl hc
theorem ziX (b:Nat) (src:ByteArray) (at':Nat) (line col:Int) (w:World) (hS:Scan w b line col src at') (hat:at'<=src.size) (hsz:src.size<=16384) (hl:0<=line/\line<=at'+1) (hc:0<=col/\col<=at'+1) :
  Calls Tryz.prog 162 #[.pointer (some ⟨b,0,none⟩),.func (.func 201) #[] #[]] w (zbF b src at' (runK (fun _=>zaU) 0 (src.data.toList.drop at')) line col (fun g=>g=b) w):=skip_still (enters_of Tryz.func201 (by kernel_rfl) rfl) (fun x W=>zfv _ W) hS hat hsz hl hc
theorem zlp (b:Nat) (src:ByteArray) (at':Nat) (line col:Int) (w:World) (hS:Scan w b line col src at') (hat:at'<=src.size) (hsz:src.size<=16384) (hl:0<=line/\line<=at'+1) (hc:0<=col/\col<=at'+1) :
  Calls Tryz.prog 162 #[.pointer (some ⟨b,0,none⟩),.func (.func 159) #[] #[]] w (zbF b src at' (runK (fun _=>zaf) 0 (src.data.toList.drop at')) line col (fun g=>g=b) w):=skip_still (enters_of Tryz.func159 (by kernel_rfl) rfl) (fun x W=>zh8 _ W) hS hat hsz hl hc
def zib (b : Nat) (src : ByteArray) (at' : Nat) (line col : Int) (w : World) (e : Ending) (w' : World) : Prop :=
  e = .returned (.tuple #[]) /\ (∃ j, at' <= j /\ j <= src.size /\ zam (src.data.toList.drop at') false line col = (src.data.toList.drop j, (zam (src.data.toList.drop at') false line col).2.1, (zam (src.data.toList.drop at') false line col).2.2) /\
    Scan w' b (zam (src.data.toList.drop at') false line col).2.1 (zam (src.data.toList.drop at') false line col).2.2 src j /\
    (0 <= (zam (src.data.toList.drop at') false line col).2.1 /\ (zam (src.data.toList.drop at') false line col).2.1 <= j + 1) /\ (0 <= (zam (src.data.toList.drop at') false line col).2.2 /\ (zam (src.data.toList.drop at') false line col).2.2 <= j + 1)) /\ Only (fun g => g = b) w w'
theorem zdy {src:ByteArray} {at' n:Nat} (_:at'+n<=src.size) {line col:Int} (hl:0<=line/\line<=at'+1) (hc:0<=col/\col<=at'+1) :
  (0<=(posS ((src.data.toList.drop at').take n) line col).1/\(posS ((src.data.toList.drop at').take n) line col).1<=(at'+n:Nat)+1)/\(0<=(posS ((src.data.toList.drop at').take n) line col).2/\(posS ((src.data.toList.drop at').take n) line col).2<=(at'+n:Nat)+1):=by
 have h:=zm4 ((src.data.toList.drop at').take n) line col hl.1 hc.1;have hlen:((src.data.toList.drop at').take n).length<=n:=List.length_take_le _ _;omega
theorem zd0 {src:ByteArray} {at':Nat} (hat:at'<=src.size) (p:UInt8->Bool):at'+((src.data.toList.drop at').takeWhile p).length<=src.size:=by
 have h:=(List.takeWhile_prefix (l:=src.data.toList.drop at') p).length_le;rw [List.length_drop,zaq] at h;omega
theorem zj4 (b:Nat) (src:ByteArray) (at':Nat) (line col:Int) (w:World) (hS:Scan w b line col src at') (hat:at'<=src.size) (hsz:src.size<=16384) (hl:0<=line/\line<=at'+1) (hc:0<=col/\col<=at'+1) :
  Calls Tryz.prog 158 #[.pointer (some ⟨b,0,none⟩)] w (zib b src at' line col w):=by
 obtain ⟨F,L,C,HF⟩:∃ F L C,Hid (zam (src.data.toList.drop at') false line col=(F,L,C)):=⟨_,_,_,zh rfl⟩
 obtain ⟨R,HE⟩:∃ R,R=zib b src at' line col w/\Hid (∀ w' j,at'<=j->j<=src.size->F=src.data.toList.drop j->Scan w' b L C src j->(0<=L/\L<=j+1)->(0<=C/\C<=j+1)->Only (fun g=>g=b) w w'->R (.returned (.tuple #[])) w'):=⟨_,rfl,zh (by
  intro w' j h1 h2 h3 h4 h5 h6 h7;unfold zib;rw [HF.out]
  exact ⟨rfl,⟨j,h1,h2,by rw [h3],h4,h5,h6⟩,h7⟩)⟩
 rw [<- HE.1];have HE:=HE.2;have HB:=zh (zgj b src at' line col w hS hat hsz hl hc);have Hp:=zh (zdy (zd0 hat zbi) hl hc);have Hk:=zh (zfu (src.data.toList.drop at') line col);have hbd:=zd0 hat zbi;have Hf:=zh (zg0 (p:=zbi) (src.data.toList.drop at'));rw [zeu] at HB;rw [List.drop_drop] at Hk Hf
 generalize ((src.data.toList.drop at').takeWhile zbi).length=n0 at *
 go_enter Tryz.func158,Tryz.ntmps158
 go_wp2_with fail
 go_at_call 162;refine HB.out.mono ?_;unfold zbF;rintro e1 w1 ⟨rfl,hS1,hO1⟩;have HS1:=zh hS1;have HO1:=zh hO1;clear hS1 hO1 HB hS;obtain ⟨l0,k0,HP0⟩:∃ l0 k0,Hid (posS ((src.data.toList.drop at').take n0) line col=(l0,k0)):=⟨_,_,zh rfl⟩;rw [HP0.out] at HS1 Hp Hk;rw [HF.out] at Hk;clear HF HP0;go_wp2_with fail
 go_loopg [4,5,6,7,8,9,10,11,12,13,14,15,16,17,18,19,20,21,22,23,24,25,26,27,28,29] (src.size - (at'+n0)) (fun g _ _ _ _ _ _ _ _ _ _ _ _ _ _ _ _ _ _ _ _ _ _ _ _ _ _ wr=>∃ (j:Nat) (line1 col1:Int),g=src.size - j/\at'<=j/\j<=src.size/\(0<=line1/\line1<=j+1)/\(0<=col1/\col1<=j+1)/\Hid ((F,L,C)=zam (src.data.toList.drop j) false line1 col1)/\Hid ((src.data.toList.drop j).head?.all (fun b=>!zbi b)=true)/\Hid (Scan wr b line1 col1 src j)/\Hid (Only (fun g=>g=b) w wr))
 case atStart=>exact ⟨at'+n0,l0,k0,rfl,by omega,hbd,Hp.out.1,Hp.out.2,zh Hk.out,zh Hf.out,zh HS1.out,zh HO1.out⟩
 case round =>
  clear HS1 HO1 Hp Hk Hf;obtain ⟨j,line1,col1,rfl,haj,hjs,hl1,hc1,HK,HH,HS,HO⟩:=hrel;obtain ⟨c0,c1,c2,c3,cf⟩:=HS.out.cells;have hj3:(0:Int)<=(j:Int):=by omega
  by_cases hlt:j < src.size
  ·obtain ⟨q,hq,Hq⟩:∃ q:Bool,((src[j].toNat:Int) == 35)=q/\Hid (q=true ↔ src[j].toNat=35):=⟨_,rfl,zh (by rw [beq_iff_eq];omega)⟩;have hb0:src[j].toNat<=255:=by have:=src[j].toNat_lt;omega
   cases q
   ·have HX:Hid (F=src.data.toList.drop j/\L=line1/\C=col1):=zh (by
     have h:=HK.out;have hh:=HH.out;rw [za2 src hlt] at h hh ⊢
     have hb:¬ (src[j].toNat=32∨src[j].toNat=9∨src[j].toNat=10):=by
      intro e;have:=(zgZ _).2 e;simp [this] at hh
     have h35:src[j].toNat≠35:=fun e=>by have:=Hq.out.2 e;cases this
     rw [zcu (by omega) (by omega) (by omega) h35] at h
     simpa using h)
    go_wp2_with fail
    refine zac (DrewOf _) (by kernel_rfl) (by kernel_rfl) (DrewOf.start _) ?_
    repeat
     try simp only [Act.put,zs1,zs3,zs2]
     apply stepsSeq.cons
     ·rintro w' ⟨nq,rfl⟩;simp only [Act.put,zs1,zs3,zs2];go_wp2_with (fail)
      first | exact ⟨rfl,nq,rfl⟩ | exact ⟨rfl,nq,(World.drewN_drewN _ _ _).symm⟩ | exact ⟨rfl,nq,by simp⟩
    try simp only [Act.put,zs1,zs3,zs2]
    refine stepsSeq.nil ?_;rintro w' ⟨nq,rfl⟩;go_wp2_with fail
    refine yE (results_none rfl _ _ _) rfl ?_;obtain ⟨h1,rfl,rfl⟩:=HX.out;exact HE.out _ j haj hjs h1 HS.out hl1 hc1 (HO.out.drewN _)
   ·have hat1:j<=src.size:=hjs
    have HI:Hid (∀ n,Calls Tryz.prog 162 #[.pointer (some ⟨b,0,none⟩),.func (.func 201) #[] #[]] (wr.drewN n) (zbF b src j ((src.data.toList.drop j).takeWhile zaU).length line1 col1 (fun g=>g=b) (wr.drewN n))):=zh (fun n=>by
     have:=ziX b src j line1 col1 (wr.drewN n) (HS.out.drewN n) hat1 hsz hl1 hc1
     rw [zeu] at this;exact this)
    have hm1:1<=((src.data.toList.drop j).takeWhile zaU).length:=by
     rw [za2 src hlt];have:zaU src[j]=true:=(zdx _).2 (by have:=Hq.out.1 rfl;omega);simp [this]
    have hbd1:=zd0 hat1 zaU;have Hp1:=zh (zdy hbd1 hl1 hc1);have Hk1:=zh (zh7 (r:=src.data.toList.drop (j+1)) (Hq.out.1 rfl) line1 col1);rw [<- za2 src hlt,List.drop_drop] at Hk1
    generalize ((src.data.toList.drop j).takeWhile zaU).length=m at *
    obtain ⟨l2,k2,HP2⟩:∃ l2 k2,Hid (posS ((src.data.toList.drop j).take m) line1 col1=(l2,k2)):=⟨_,_,zh rfl⟩;rw [HP2.out] at Hp1 Hk1;go_wp2_with fail
    refine zac (DrewOf _) (by kernel_rfl) (by kernel_rfl) (DrewOf.start _) ?_
    repeat
     try simp only [Act.put,zs1,zs3,zs2]
     apply stepsSeq.cons
     ·rintro w' ⟨nq,rfl⟩;simp only [Act.put,zs1,zs3,zs2];go_wp2_with (fail)
      first | exact ⟨rfl,nq,rfl⟩ | exact ⟨rfl,nq,(World.drewN_drewN _ _ _).symm⟩ | exact ⟨rfl,nq,by simp⟩
    try simp only [Act.put,zs1,zs3,zs2]
    refine stepsSeq.nil ?_;rintro w' ⟨nq,rfl⟩;go_wp2_with fail
    clear c0 c1 c2 c3 cf;go_at_call 162;refine (HI.out _).mono ?_;unfold zbF;rintro e1 w2 ⟨rfl,hS2,hO2⟩;rw [HP2.out] at hS2;have HS2:=zh hS2;have HO2:=zh (HO.out.trans ((Only.refl _ _).drewN _ |>.trans hO2));clear hS2 hO2 HI HP2 HS HO;have HB2:=zh (zgj b src (j+m) l2 k2 w2 HS2.out hbd1 hsz Hp1.out.1 Hp1.out.2);have hbd2:=zd0 hbd1 zbi;have Hp2:=zh (zdy hbd2 Hp1.out.1 Hp1.out.2);have Hk2:=zh (zfu (src.data.toList.drop (j+m)) l2 k2);have Hf2:=zh (zg0 (p:=zbi) (src.data.toList.drop (j+m)));rw [zeu] at HB2;rw [List.drop_drop] at Hk2 Hf2
    generalize ((src.data.toList.drop (j+m)).takeWhile zbi).length=n2 at *
    obtain ⟨l3,k3,HP3⟩:∃ l3 k3,Hid (posS ((src.data.toList.drop (j+m)).take n2) l2 k2=(l3,k3)):=⟨_,_,zh rfl⟩;rw [HP3.out] at Hp2 Hk2;go_wp2_with fail
    go_at_call 162;refine HB2.out.mono ?_;unfold zbF;rintro e1 w3 ⟨rfl,hS3,hO3⟩;rw [HP3.out] at hS3;have HS3:=zh hS3;have HO3:=zh (HO2.out.trans hO3);clear hS3 hO3 HB2 HP3 HS2 HO2;go_wp2_with fail
    go_roundg (src.size - (j+m+n2))
    case measure=>omega
    case rel=>exact ⟨j+m+n2,l3,k3,rfl,by omega,hbd2,Hp2.out.1,Hp2.out.2,zh (by rw [HK.out,Hk1.out,Hk2.out]),zh Hf2.out,zh HS3.out,zh HO3.out⟩
  ·have HX:Hid (F=src.data.toList.drop j/\L=line1/\C=col1):=zh (by
    have h:=HK.out;rw [zdf src (by omega)] at h ⊢
    simpa [zam] using h)
   go_wp2_with fail
   refine zac (DrewOf _) (by kernel_rfl) (by kernel_rfl) (DrewOf.start _) ?_
   repeat
    try simp only [Act.put,zs1,zs3,zs2]
    apply stepsSeq.cons
    ·rintro w' ⟨nq,rfl⟩;simp only [Act.put,zs1,zs3,zs2];go_wp2_with (fail)
     first | exact ⟨rfl,nq,rfl⟩ | exact ⟨rfl,nq,(World.drewN_drewN _ _ _).symm⟩ | exact ⟨rfl,nq,by simp⟩
   try simp only [Act.put,zs1,zs3,zs2]
   refine stepsSeq.nil ?_;rintro w' ⟨nq,rfl⟩;go_wp2_with fail
   refine yE (results_none rfl _ _ _) rfl ?_;obtain ⟨h1,rfl,rfl⟩:=HX.out;exact HE.out _ j haj hjs h1 HS.out hl1 hc1 (HO.out.drewN _)
theorem zlq (b:Nat) (src:ByteArray) (at':Nat) (line col:Int) (w:World) (lb m:Nat) (hm:m<=100) (hne:lb≠b) (hL:OwnV w lb 3 [.int .i64 m]) (hS:Scan w b line col src at') (hat:at'<=src.size) (hsz:src.size<=16384) (hl:0<=line/\line<=at'+1) (hc:0<=col/\col<=at'+1) :
  Calls Tryz.prog 162 #[.pointer (some ⟨b,0,none⟩),.func (.func 166) #[] #[.pointer (some ⟨lb,0,none⟩)]] w (zbF b src at' (runK (fun i _=>decide (i < m)) 0 (src.data.toList.drop at')) line col (fun g=>g=b∨g=lb) w):=
 skip_gen (fun i _=>decide (i < m)) (fun g=>g=b∨g=lb) (fun k W=>OwnV W lb 3 [.int .i64 ((m:Int) - k)]) (.inl rfl) (enters_of Tryz.func166 (by kernel_rfl) rfl) (fun k W W' h hO=>hO.own h hne)
  (fun k x W hk h=>(zlf _ ((m:Int) - k) lb (decide (k < m)) W (OwnV.cell h rfl) (OwnV.free h 0) (by omega) (by omega) (by simp only [decide_eq_decide];omega)).mono (by
   rintro e w' ⟨rfl,rfl⟩;have h2:=h.set 0 (.int .i64 ((m:Int) - k - 1));rw [show (m:Int) - k - 1=(m:Int) - (k+1:Nat) by omega] at h2 ⊢
   exact ⟨rfl,h2,(Only.refl _ W).setIn ⟨.inr rfl,hne⟩ _⟩)) (by rw [show (m:Int) - (0:Nat)=m by omega];exact hL) hS hat hsz hl hc
end Go.Proofs.YtdhikpkecmaplaaGreatDoor
