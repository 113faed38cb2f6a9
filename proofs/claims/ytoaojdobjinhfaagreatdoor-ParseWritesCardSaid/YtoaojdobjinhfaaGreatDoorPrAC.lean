/- The program's printer: binds, short, walked. -/
import Derived.Test.YtoaojdobjinhfaaGreatDoorBackSC
import Derived.Test.YtoaojdobjinhfaaGreatDoorFineSC
import Derived.Test.YtoaojdobjinhfaaGreatDoorGlobC
import Derived.Test.YtoaojdobjinhfaaGreatDoorPaHC
import Derived.Test.YtoaojdobjinhfaaGreatDoorShelf
set_option linter.unusedSimpArgs false
set_option linter.unusedVariables false
set_option maxRecDepth 100000
set_option maxHeartbeats 1000000
namespace Go.Proofs.YtoaojdobjinhfaaGreatDoor
open Go.RowKit

theorem zmC (n:Nat) (hn:n < 5):∀ x ∈ lvl n,zar x.2=n+1∧zaO x.2=x.1:=by
 have:n=0∨n=1∨n=2∨n=3∨n=4:=by omega
 rcases this with rfl | rfl | rfl | rfl | rfl <;> decide
theorem zmD {op:Int} (h:∀ m,m < 5→∀ x ∈ lvl m,x.2≠op):zar op=6:=by
 unfold zar;by_cases ho:10≤op∧op≤22
 ·exfalso;have h0:=h 0 (by omega);have h1:=h 1 (by omega);have h2:=h 2 (by omega);have h3:=h 3 (by omega);have h4:=h 4 (by omega);simp [lvl] at h0 h1 h2 h3 h4;omega
 ·rw [if_neg ho]
def zdk (op : Int) : List UInt8 := if zar op < 6 then zaO op else []
theorem znl (n:Nat) (hn:n < 5):(lvl n).length≤6:=by
 have:n=0∨n=1∨n=2∨n=3∨n=4:=by omega
 rcases this with rfl | rfl | rfl | rfl | rfl <;> decide
theorem zbw (op:Int) (w:World) :
  Calls Tryz.prog 97 #[.int .u8 op] w fun e w'=>e=.returned (.tuple #[.int .i64 ((zar op:Int) - 1),.string (bstr (zdk op))])∧Below w.heap.size w w':=by
 have HL:=zh (za7 w);obtain ⟨B,hB⟩:∃ B,((zar op:Int) - 1)=B:=⟨_,rfl⟩;obtain ⟨T,hT⟩:∃ T,bstr (zdk op)=T:=⟨_,rfl⟩
 have HYes:Hid (∀ n x,n < 5→x ∈ lvl n→x.2=op→B=n∧T=bstr x.1):=zh (fun n x hn hx e=>by
  obtain ⟨h1,h2⟩:=zmC n hn x hx;rw [e] at h1 h2;rw [← hB,← hT,h1];refine ⟨by omega,?_⟩;unfold zdk
  rw [if_pos (by omega),h2])
 have HNo:Hid ((∀ m,m < 5→∀ x ∈ lvl m,x.2≠op)→B=5∧T={ data:=#[] }):=zh (fun h=>by
  have h6:=zmD h;rw [← hB,← hT,h6];refine ⟨by omega,?_⟩;unfold zdk;rw [if_neg (by omega)]
  rfl)
 rw [hB,hT];clear hB hT;go_enter Tryz.func97,Tryz.ntmps97
 go_wp2_with fail
 go_at_call 98;refine HL.out.mono ?_;rintro e1 w1 ⟨rfl,hrow,hb1⟩;have HRow:=zh hrow;have Hb1:=zh hb1;have hs1:w.heap.size≤w1.heap.size:=hb1.size;clear hrow hb1 HL;go_wp2_with fail
 go_loopw [2,3,4,5,7,9,10,11,12,13,14,15,16,17,18,19,20,21,22,23,24,25,26,27] (fun _ _ _ _ _ t9 _ _ _ _ _ _ _ _ _ _ _ _ _ _ _ _ _ _ wr=>∃ n:Nat,t9=.int .i64 n∧n≤5∧Hid (∀ m,m < n→∀ x ∈ lvl m,x.2≠op)∧Hid (∀ m,m < 5→OwnV wr (w.heap.size+1+m) 155 (sgC (lvl m)))∧Hid (Below w.heap.size w wr)) (fun _ _ _ _ _ t9 _ _ _ _ _ _ _ _ _ _ _ _ _ _ _ _ _ _ _=>5 - (intOf t9).toNat)
 case atStart=>exact ⟨0,by first | rfl | go_num,by omega,zh (fun m hm=>by omega),HRow,Hb1⟩
 case round =>
  obtain ⟨n,rfl,hn5,HP,HR,HB⟩:=hrel;obtain hn | hn:n=5∨n < 5:=by omega
  · -- behind the loop
   have hc:¬ ((n:Int) < 5):=by omega
   obtain ⟨rfl,rfl⟩:=HNo.out (fun m hm x hx=>HP.out m (by omega) x hx);have HL2:=zh (za7 wr);clear HNo HYes HP HR HRow;go_wp2_with fail
   go_at_call 98;refine HL2.out.mono ?_;rintro e2 w2 ⟨rfl,-,hb2⟩;have Hb2:=zh (HB.out.trans (hb2.mono HB.out.size));clear hb2;go_wp2_with fail
   exact bodyPost_ret (v:=.tuple #[.int .i64 5,.string { data:=#[] }]) (by simp [results,Tryz.results97,go_sem]) rfl ⟨rfl,Hb2.out⟩
  ·have hc:(n:Int) < 5:=by omega
   have hix:=zg7 n hn w.heap.size;have hl6:=znl n hn
   generalize hlv:lvl n=lv at *
   have Hlv:=zh hlv;clear hlv;go_wp2_with fail
   go_loopw [2,3,7,15,16,17,18,19,20,21,22,23,24,25,26] (fun _ _ _ t15 _ _ _ _ _ _ _ _ _ _ _ wr=>∃ k:Nat,t15=.int .i64 k∧k≤lv.length∧Hid (∀ j x,j < k→lv[j]? = some x→x.2≠op)∧Hid (∀ m,m < 5→OwnV wr (w.heap.size+1+m) 155 (sgC (lvl m)))∧Hid (Below w.heap.size w wr)) (fun _ _ _ t15 _ _ _ _ _ _ _ _ _ _ _ _=>lv.length - (intOf t15).toNat)
   case atStart=>exact ⟨0,by first | rfl | go_num,by omega,zh (fun j x hj=>by omega),HR,HB⟩
   case round =>
    obtain ⟨k,rfl,hk,HQ,HR2,HB2⟩:=hrel;obtain hkl | hkl:k=lv.length∨k < lv.length:=by omega
    ·have hck:¬ ((k:Int) < (lv.length:Int)):=by omega
     go_wp2_with fail
     go_roundw
     case measure=>show 5 - ((n:Int)+1).toNat < 5 - (n:Int).toNat;omega
     case rel=>exact ⟨n+1,by first | rfl | go_num,by omega,zh (fun m hm x hx=>by
      rcases Nat.lt_or_ge m n with h | h
      ·exact HP.out m h x hx
      ·obtain rfl:m=n:=by omega
       rw [Hlv.out] at hx;obtain ⟨j,hj,e⟩:=List.getElem_of_mem hx
       exact HQ.out j x (by omega) (by rw [List.getElem?_eq_getElem hj,e])),HR2,HB2⟩
    ·have hck:(k:Int) < (lv.length:Int):=by omega
     have hk0:(0:Int)≤(k:Int):=by omega
     have hO:=HR2.out n hn;rw [Hlv.out] at hO;obtain ⟨s0,s1⟩:=zgm hO hkl;have hxl:lv[k] ∈ lvl n:=by rw [Hlv.out];exact List.getElem_mem hkl
     have HY:=zh (HYes.out n lv[k] hn hxl);have Hk1:Hid (∀ x,lv[k]? = some x→x=lv[k]):=zh (fun x e=>by rw [List.getElem?_eq_getElem hkl] at e;cases e;rfl)
     generalize lv[k]=X at *
     obtain ⟨xs,xo⟩:=X;have hlt:=hO.lt;obtain ⟨W7,hW7,hb7,hO7⟩:∃ W7,W7=wr.alloc (.cells #[.string (bstr xs),.int .u8 xo] 155)∧Below wr.heap.size wr W7∧OwnV W7 wr.heap.size 155 [.string (bstr xs),.int .u8 xo]:=⟨_,rfl,(Below.refl _ _).alloc (zr _) _,OwnV.new _ _ _⟩;have t0:=hO7.cell (i:=0) rfl;have t1:=hO7.cell (i:=1) rfl;have HB7:=zh (HB2.out.trans (hb7.mono HB2.out.size));have HR7:Hid (∀ m,m < 5→OwnV W7 (w.heap.size+1+m) 155 (sgC (lvl m))):=zh (fun m hm=>(HR2.out m hm).below hb7 (zr _));have HW7:=zh hW7;clear hO hW7 hb7 hO7 hxl;go_upto_region 7 with (fail)
     rw [← HW7.out];obtain ⟨q,hq⟩:∃ q,(xo == op)=q:=⟨_,rfl⟩
     cases q with
     | true =>
      have he:xo=op:=by simpa using hq
      obtain ⟨rfl,rfl⟩:=HY.out he;clear he;go_upto_region 8 with (fail)
      go_quiet (fail)
      go_wp2_with fail
      exact bodyPost_ret (v:=.tuple #[.int .i64 n,.string (bstr xs)]) (by simp [results,Tryz.results97,go_sem]) rfl ⟨rfl,Below.drewN HB7.out nq⟩
     | false =>
      have he:xo≠op:=by simpa using hq
      have He:=zh he;clear he;go_wp2_with fail
      go_roundw
      case measure=>show lv.length - ((k:Int)+1).toNat < lv.length - (k:Int).toNat;omega
      case rel=>exact ⟨k+1,by first | rfl | go_num,by omega,zh (fun j x hj e=>by
       rcases Nat.lt_or_ge j k with h | h
       ·exact HQ.out j x h e
       ·obtain rfl:j=k:=by omega
        rw [Hk1.out x e];exact He.out),HR7,HB7⟩
theorem zhe (s:ByteArray) (w:World) :
  Calls Tryz.prog 55 #[.string s] w fun e w'=>e=.returned (.tuple #[.string (if 16384 < s.size then { data:=#[] } else s),.int .i64 (if 16384 < s.size then 3 else 0)])∧w'=w:=by
 by_cases h:16384 < s.size
 ·have h1:(s.size:Int) > 16384:=by omega
  rw [if_pos h,if_pos h];go_enter Tryz.func55,Tryz.ntmps55
  go_wp2_with fail
  exact bodyPost_ret (v:=.tuple #[.string { data:=#[] },.int .i64 3]) (by simp [results,Tryz.results55,go_sem]) rfl ⟨rfl,rfl⟩
 ·have h1:¬ (s.size:Int) > 16384:=by omega
  rw [if_neg h,if_neg h];go_enter Tryz.func55,Tryz.ntmps55
  go_wp2_with fail
  exact bodyPost_ret (v:=.tuple #[.string s,.int .i64 0]) (by simp [results,Tryz.results55,go_sem]) rfl ⟨rfl,rfl⟩
theorem zbV (l:List UInt8):({ data:=l.toArray }:ByteArray)=bstr l:=rfl

def TxtE (T : List UInt8) (w : World) (e : Ending) (w' : World) : Prop := e = .returned (.string (bstr T)) ∧ Below w.heap.size w w'
def WrC (w0 : World) (B : Nat) (x : Ex) : Prop := ∀ (op n : Int) (name : List UInt8) (args : List Ex) (v : Value) (w : World) (lv : Nat), x = .mk op n name args → Below B w0 w → B ≤ w.heap.size → EsL w B args v → lv ≤ 5 → Calls Tryz.prog 63 #[.agg #[.int .u8 op, .int .i64 n, .string (bstr name), v], .int .i64 lv] w (TxtE (zak x (lv + 1)) w)
theorem zbW {op:Int} (h:zar op=6):zdk op=[]:=by unfold zdk;rw [if_neg (by omega)]
theorem zax (a b:List UInt8):bstr a++bstr b=bstr (a++b):=by
 unfold bstr;simp [ByteArray.append,ByteArray.ext_iff]
theorem zaC (a:List UInt8):(bstr a).size=a.length:=by simp [bstr,ByteArray.size]
theorem za1 {w0 w:World} {gx B:Nat} {v0 v1 v2:Value} {args:List Ex} {a:Option Addr} {cap i lv:Nat} {y:Ex} (hg:OwnV w gx 29 [v0,v1,v2,.slice a args.length cap]) (hL:EsL w B args (.slice a args.length cap)) (hb0:Below B w0 w) (hB:B≤w.heap.size) (hlv:lv≤5) (hi:args[i]? = some y) (hW:WrC w0 B y) :
  Calls Tryz.prog 96 #[.int .i64 i,.int .i64 lv,.pointer (some ⟨gx,0,none⟩)] w (TxtE (zak y (lv+1)) w):=by
 have hil:i < args.length:=by
  rcases Nat.lt_or_ge i args.length with h | h
  ·exact h
  ·rw [List.getElem?_eq_none h] at hi;cases hi
 obtain ⟨b,off,op,n,name,args',aa,ac,rfl,hb,hbw,hy,c0,c1,c2,c3,hL'⟩:=hL.at hil;rw [hi] at hy;cases hy;have HC:=zh (hW op n name args' _ w lv rfl hb0 hB hL' hlv);obtain ⟨T,hT⟩:∃ T,zak (.mk op n name args') (lv+1)=T:=⟨_,rfl⟩;rw [hT] at HC ⊢;have x3:=hg.cell (i:=3) rfl;obtain ⟨_,_,hcap1,hcap2,hcap3⟩:=hL.form;cases hcap1;have hi1:(i:Int) < (args.length:Int):=by omega
 have hi0:(0:Int)≤(i:Int):=by omega
 clear hT hW hg hL hi hb0 hL';go_enter Tryz.func96,Tryz.ntmps96
 go_wp2_with fail
 go_at_call 63;refine HC.out.mono ?_;rintro e1 w1 ⟨rfl,hb1⟩;have Hb1:=zh hb1;clear hb1 c0 c1 c2 c3 x3;go_wp2_with fail
 exact bodyPost_ret (v:=.string (bstr T)) (by simp [results,Tryz.results96,go_sem]) rfl ⟨rfl,Hb1.out⟩
theorem zbf (args:Array Value) (W:World):(callFunc 96 args).run Tryz.prog W=.ok (.enter 96 args) W:=(enters_of (P:=Tryz.prog) Tryz.func96 (by kernel_rfl) rfl) args W
theorem zis {w0 w:World} {B:Nat}  {v:Value} (hL:EsL w B [] v) (hb0:Below B w0 w) (hB:B≤w.heap.size) (lv:Nat) (hlv:lv≤5) :
  Calls Tryz.prog 63 #[.agg #[.int .u8 4,.int .i64 0,.string { data:=#[] },v],.int .i64 lv] w (TxtE ([116,105,99,107]) w):=by
 obtain ⟨a,cap,rfl,hc1,hc2⟩:=hL.form;have hmf:=zmf Tryz.prog
 obtain ⟨W0,hW0,hb1,hO0⟩:∃ W0,W0=w.alloc (.cells #[.int .u8 4,.int .i64 0,.string { data:=#[] },.slice a 0 cap] 29)∧Below w.heap.size w W0∧OwnV W0 w.heap.size 29 [.int .u8 4,.int .i64 0,.string { data:=#[] },.slice a 0 cap]:=⟨_,rfl,(Below.refl _ _).alloc (zr _) _,OwnV.new _ _ _⟩;have HBi:=zh (zbw 4 W0);have hB6:zar 4=6:=by decide
 rw [hB6,zbW hB6,show bstr []=({ data:=#[] }:ByteArray) from rfl] at HBi;have HW0:=zh hW0;have HO0:=zh hO0;have Hb1:=zh hb1;have HL:=zh (hL.low (hb1.mono hB));have Hb0:=zh (hb0.trans (hb1.mono hB));have x0:=hO0.cell (i:=0) rfl;clear hW0 hO0 hb1 hL hb0;go_enter Tryz.func63,Tryz.ntmps63
 go_upto_region 1 with (fail)
 rw [← HW0.out];go_wp2_with fail
 go_at_call 97;refine HBi.out.mono ?_;rintro e1 w1 ⟨rfl,hb2⟩;have hs1:=hb2.size;have HO1:=zh (HO0.out.below hb2 (zr _));have HB1:=zh (Hb1.out.trans (hb2.mono Hb1.out.size));have hs0:=Hb1.out.size;have HL1:=zh (HL.out.low (hb2.mono (Nat.le_trans hB hs0)));have Hb0:=zh (Hb0.out.trans (hb2.mono (Nat.le_trans hB hs0)));have hlt1:=HO1.out.lt;clear hb2 x0 HO0 Hb1 HL HBi;have x0:=HO1.out.cell (i:=0) rfl;have HLv:=zh (za7 w1);go_wp2_with fail
 go_at_call 98;refine HLv.out.mono ?_;rintro e2 w2 ⟨rfl,-,hb3⟩;have hs2:=hb3.size;have HO2:=zh (HO1.out.below hb3 (zr _));have HB2:=zh (HB1.out.trans (hb3.mono HB1.out.size));have hs10:w.heap.size≤w1.heap.size:=HB1.out.size;have HL2:=zh (HL1.out.low (hb3.mono (Nat.le_trans hB hs10)));have Hb0:=zh (Hb0.out.trans (hb3.mono (Nat.le_trans hB hs10)));have hlt2:=HO2.out.lt;have hb23:B≤w2.heap.size:=by omega
 clear hb3 x0 HLv HO1 HL1 HB1;have x0:=HO2.out.cell (i:=0) rfl;go_wp2_with fail
 refine bodyPost_ret (v:=.string ({ data:=#[116,105,99,107] }:ByteArray)) (by simp [results,Tryz.results63,go_sem]) rfl ⟨rfl,HB2.out⟩
theorem zit {w0 w:World} {B:Nat}  {v:Value} (hL:EsL w B [] v) (hb0:Below B w0 w) (hB:B≤w.heap.size) (lv:Nat) (hlv:lv≤5) :
  Calls Tryz.prog 63 #[.agg #[.int .u8 5,.int .i64 0,.string { data:=#[] },v],.int .i64 lv] w (TxtE ([115,101,108,102]) w):=by
 obtain ⟨a,cap,rfl,hc1,hc2⟩:=hL.form;have hmf:=zmf Tryz.prog
 obtain ⟨W0,hW0,hb1,hO0⟩:∃ W0,W0=w.alloc (.cells #[.int .u8 5,.int .i64 0,.string { data:=#[] },.slice a 0 cap] 29)∧Below w.heap.size w W0∧OwnV W0 w.heap.size 29 [.int .u8 5,.int .i64 0,.string { data:=#[] },.slice a 0 cap]:=⟨_,rfl,(Below.refl _ _).alloc (zr _) _,OwnV.new _ _ _⟩;have HBi:=zh (zbw 5 W0);have hB6:zar 5=6:=by decide
 rw [hB6,zbW hB6,show bstr []=({ data:=#[] }:ByteArray) from rfl] at HBi;have HW0:=zh hW0;have HO0:=zh hO0;have Hb1:=zh hb1;have HL:=zh (hL.low (hb1.mono hB));have Hb0:=zh (hb0.trans (hb1.mono hB));have x0:=hO0.cell (i:=0) rfl;clear hW0 hO0 hb1 hL hb0;go_enter Tryz.func63,Tryz.ntmps63
 go_upto_region 1 with (fail)
 rw [← HW0.out];go_wp2_with fail
 go_at_call 97;refine HBi.out.mono ?_;rintro e1 w1 ⟨rfl,hb2⟩;have hs1:=hb2.size;have HO1:=zh (HO0.out.below hb2 (zr _));have HB1:=zh (Hb1.out.trans (hb2.mono Hb1.out.size));have hs0:=Hb1.out.size;have HL1:=zh (HL.out.low (hb2.mono (Nat.le_trans hB hs0)));have Hb0:=zh (Hb0.out.trans (hb2.mono (Nat.le_trans hB hs0)));have hlt1:=HO1.out.lt;clear hb2 x0 HO0 Hb1 HL HBi;have x0:=HO1.out.cell (i:=0) rfl;have HLv:=zh (za7 w1);go_wp2_with fail
 go_at_call 98;refine HLv.out.mono ?_;rintro e2 w2 ⟨rfl,-,hb3⟩;have hs2:=hb3.size;have HO2:=zh (HO1.out.below hb3 (zr _));have HB2:=zh (HB1.out.trans (hb3.mono HB1.out.size));have hs10:w.heap.size≤w1.heap.size:=HB1.out.size;have HL2:=zh (HL1.out.low (hb3.mono (Nat.le_trans hB hs10)));have Hb0:=zh (Hb0.out.trans (hb3.mono (Nat.le_trans hB hs10)));have hlt2:=HO2.out.lt;have hb23:B≤w2.heap.size:=by omega
 clear hb3 x0 HLv HO1 HL1 HB1;have x0:=HO2.out.cell (i:=0) rfl;go_wp2_with fail
 refine bodyPost_ret (v:=.string ({ data:=#[115,101,108,102] }:ByteArray)) (by simp [results,Tryz.results63,go_sem]) rfl ⟨rfl,HB2.out⟩
theorem zi9 {w0 w:World} {B:Nat} {name:List UInt8} {v:Value} (hL:EsL w B [] v) (hb0:Below B w0 w) (hB:B≤w.heap.size) (lv:Nat) (hlv:lv≤5) :
  Calls Tryz.prog 63 #[.agg #[.int .u8 2,.int .i64 0,.string (bstr name),v],.int .i64 lv] w (TxtE (name) w):=by
 obtain ⟨a,cap,rfl,hc1,hc2⟩:=hL.form;have hmf:=zmf Tryz.prog
 obtain ⟨W0,hW0,hb1,hO0⟩:∃ W0,W0=w.alloc (.cells #[.int .u8 2,.int .i64 0,.string (bstr name),.slice a 0 cap] 29)∧Below w.heap.size w W0∧OwnV W0 w.heap.size 29 [.int .u8 2,.int .i64 0,.string (bstr name),.slice a 0 cap]:=⟨_,rfl,(Below.refl _ _).alloc (zr _) _,OwnV.new _ _ _⟩;have HBi:=zh (zbw 2 W0);have hB6:zar 2=6:=by decide
 rw [hB6,zbW hB6,show bstr []=({ data:=#[] }:ByteArray) from rfl] at HBi;have HW0:=zh hW0;have HO0:=zh hO0;have Hb1:=zh hb1;have HL:=zh (hL.low (hb1.mono hB));have Hb0:=zh (hb0.trans (hb1.mono hB));have x0:=hO0.cell (i:=0) rfl;clear hW0 hO0 hb1 hL hb0;go_enter Tryz.func63,Tryz.ntmps63
 go_upto_region 1 with (fail)
 rw [← HW0.out];go_wp2_with fail
 go_at_call 97;refine HBi.out.mono ?_;rintro e1 w1 ⟨rfl,hb2⟩;have hs1:=hb2.size;have HO1:=zh (HO0.out.below hb2 (zr _));have HB1:=zh (Hb1.out.trans (hb2.mono Hb1.out.size));have hs0:=Hb1.out.size;have HL1:=zh (HL.out.low (hb2.mono (Nat.le_trans hB hs0)));have Hb0:=zh (Hb0.out.trans (hb2.mono (Nat.le_trans hB hs0)));have hlt1:=HO1.out.lt;clear hb2 x0 HO0 Hb1 HL HBi;have x0:=HO1.out.cell (i:=0) rfl;have HLv:=zh (za7 w1);go_wp2_with fail
 go_at_call 98;refine HLv.out.mono ?_;rintro e2 w2 ⟨rfl,-,hb3⟩;have hs2:=hb3.size;have HO2:=zh (HO1.out.below hb3 (zr _));have HB2:=zh (HB1.out.trans (hb3.mono HB1.out.size));have hs10:w.heap.size≤w1.heap.size:=HB1.out.size;have HL2:=zh (HL1.out.low (hb3.mono (Nat.le_trans hB hs10)));have Hb0:=zh (Hb0.out.trans (hb3.mono (Nat.le_trans hB hs10)));have hlt2:=HO2.out.lt;have hb23:B≤w2.heap.size:=by omega
 clear hb3 x0 HLv HO1 HL1 HB1;have x0:=HO2.out.cell (i:=0) rfl;have x2:=HO2.out.cell (i:=2) rfl;go_wp2_with fail
 refine bodyPost_ret (v:=.string (bstr name)) (by simp [results,Tryz.results63,go_sem]) rfl ⟨rfl,HB2.out⟩
theorem zja {w0 w:World} {B:Nat} {n:Int} (h0:0≤n) (h1:n≤9223372036854775807) (hG:Glob w) {v:Value} (hL:EsL w B [] v) (hb0:Below B w0 w) (hB:B≤w.heap.size) (lv:Nat) (hlv:lv≤5) :
  Calls Tryz.prog 63 #[.agg #[.int .u8 1,.int .i64 n,.string { data:=#[] },v],.int .i64 lv] w (TxtE (Lib.decDigits n.toNat) w):=by
 obtain ⟨a,cap,rfl,hc1,hc2⟩:=hL.form;have hmf:=zmf Tryz.prog
 obtain ⟨W0,hW0,hb1,hO0⟩:∃ W0,W0=w.alloc (.cells #[.int .u8 1,.int .i64 n,.string { data:=#[] },.slice a 0 cap] 29)∧Below w.heap.size w W0∧OwnV W0 w.heap.size 29 [.int .u8 1,.int .i64 n,.string { data:=#[] },.slice a 0 cap]:=⟨_,rfl,(Below.refl _ _).alloc (zr _) _,OwnV.new _ _ _⟩;have HBi:=zh (zbw 1 W0);have hB6:zar 1=6:=by decide
 rw [hB6,zbW hB6,show bstr []=({ data:=#[] }:ByteArray) from rfl] at HBi;have HW0:=zh hW0;have HO0:=zh hO0;have Hb1:=zh hb1;have HL:=zh (hL.low (hb1.mono hB));have Hb0:=zh (hb0.trans (hb1.mono hB));have x0:=hO0.cell (i:=0) rfl;clear hW0 hO0 hb1 hL hb0;go_enter Tryz.func63,Tryz.ntmps63
 go_upto_region 1 with (fail)
 rw [← HW0.out];go_wp2_with fail
 go_at_call 97;refine HBi.out.mono ?_;rintro e1 w1 ⟨rfl,hb2⟩;have hs1:=hb2.size;have HO1:=zh (HO0.out.below hb2 (zr _));have HB1:=zh (Hb1.out.trans (hb2.mono Hb1.out.size));have hs0:=Hb1.out.size;have HL1:=zh (HL.out.low (hb2.mono (Nat.le_trans hB hs0)));have Hb0:=zh (Hb0.out.trans (hb2.mono (Nat.le_trans hB hs0)));have hlt1:=HO1.out.lt;clear hb2 x0 HO0 Hb1 HL HBi;have x0:=HO1.out.cell (i:=0) rfl;have HLv:=zh (za7 w1);go_wp2_with fail
 go_at_call 98;refine HLv.out.mono ?_;rintro e2 w2 ⟨rfl,-,hb3⟩;have hs2:=hb3.size;have HO2:=zh (HO1.out.below hb3 (zr _));have HB2:=zh (HB1.out.trans (hb3.mono HB1.out.size));have hs10:w.heap.size≤w1.heap.size:=HB1.out.size;have HL2:=zh (HL1.out.low (hb3.mono (Nat.le_trans hB hs10)));have Hb0:=zh (Hb0.out.trans (hb3.mono (Nat.le_trans hB hs10)));have hlt2:=HO2.out.lt;have hb23:B≤w2.heap.size:=by omega
 clear hb3 x0 HLv HO1 HL1 HB1;have hG2:=hG.below HB2.out hG.size;have HI:=zh (Tryz.strconv_Itoa n (by omega) h1 w2 hG2.pow);rw [show Lib.itoa n=Lib.decDigits n.toNat from by unfold Lib.itoa;rw [if_neg (by omega)]] at HI;have x0:=HO2.out.cell (i:=0) rfl;have x1:=HO2.out.cell (i:=1) rfl;go_wp2_with fail
 go_at_call 99;refine HI.out.mono ?_;rintro e3 w3 ⟨rfl,k,os,hw⟩;have HB3:Hid (Below w.heap.size w w3):=zh (by rw [hw];exact HB2.out.trans (Lib.below_grow _ _ HB2.out.size _ _));clear hw HI x0 x1;go_wp2_with fail
 refine bodyPost_ret (v:=.string ({ data:=(Lib.decDigits n.toNat).toArray }:ByteArray)) (by simp [results,Tryz.results63,go_sem]) rfl ⟨rfl,HB3.out⟩
theorem zjb {w0 w:World} {B:Nat} {x:Ex} (h0:WrC w0 B x) (hz0:∀ k,(zak x k).length≤1000000000000000) {v:Value} (hL:EsL w B [x] v) (hb0:Below B w0 w) (hB:B≤w.heap.size) (lv:Nat) (hlv:lv≤5) :
  Calls Tryz.prog 63 #[.agg #[.int .u8 7,.int .i64 0,.string { data:=#[] },v],.int .i64 lv] w (TxtE ([45]++zak x 6) w):=by
 obtain ⟨a,cap,rfl,hc1,hc2⟩:=hL.form;have hmf:=zmf Tryz.prog
 obtain ⟨W0,hW0,hb1,hO0⟩:∃ W0,W0=w.alloc (.cells #[.int .u8 7,.int .i64 0,.string { data:=#[] },.slice a 1 cap] 29)∧Below w.heap.size w W0∧OwnV W0 w.heap.size 29 [.int .u8 7,.int .i64 0,.string { data:=#[] },.slice a 1 cap]:=⟨_,rfl,(Below.refl _ _).alloc (zr _) _,OwnV.new _ _ _⟩;have HBi:=zh (zbw 7 W0);have hB6:zar 7=6:=by decide
 rw [hB6,zbW hB6,show bstr []=({ data:=#[] }:ByteArray) from rfl] at HBi;obtain ⟨TX,hTX⟩:∃ T,([45]++zak x 6)=T:=⟨_,rfl⟩;rw [hTX];have HTX:=zh hTX;clear hTX;have HW0:=zh hW0;have HO0:=zh hO0;have Hb1:=zh hb1;have HL:=zh (hL.low (hb1.mono hB));have Hb0:=zh (hb0.trans (hb1.mono hB));have x0:=hO0.cell (i:=0) rfl;clear hW0 hO0 hb1 hL hb0;go_enter Tryz.func63,Tryz.ntmps63
 go_upto_region 1 with (fail)
 rw [← HW0.out];go_wp2_with fail
 go_at_call 97;refine HBi.out.mono ?_;rintro e1 w1 ⟨rfl,hb2⟩;have hs1:=hb2.size;have HO1:=zh (HO0.out.below hb2 (zr _));have HB1:=zh (Hb1.out.trans (hb2.mono Hb1.out.size));have hs0:=Hb1.out.size;have HL1:=zh (HL.out.low (hb2.mono (Nat.le_trans hB hs0)));have Hb0:=zh (Hb0.out.trans (hb2.mono (Nat.le_trans hB hs0)));have hlt1:=HO1.out.lt;clear hb2 x0 HO0 Hb1 HL HBi;have x0:=HO1.out.cell (i:=0) rfl;have HLv:=zh (za7 w1);go_wp2_with fail
 go_at_call 98;refine HLv.out.mono ?_;rintro e2 w2 ⟨rfl,-,hb3⟩;have hs2:=hb3.size;have HO2:=zh (HO1.out.below hb3 (zr _));have HB2:=zh (HB1.out.trans (hb3.mono HB1.out.size));have hs10:w.heap.size≤w1.heap.size:=HB1.out.size;have HL2:=zh (HL1.out.low (hb3.mono (Nat.le_trans hB hs10)));have Hb0:=zh (Hb0.out.trans (hb3.mono (Nat.le_trans hB hs10)));have hlt2:=HO2.out.lt;have hb23:B≤w2.heap.size:=by omega
 clear hb3 x0 HLv HO1 HL1 HB1;have HA0:Hid (∀ W,Below w2.heap.size w2 W→Calls Tryz.prog 96 #[.int .i64 0,.int .i64 5,.pointer (some ⟨w.heap.size,0,none⟩)] W (TxtE (zak x 6) W)):=zh (fun W hb=>za1 (w0:=w0) (i:=0) (lv:=5) (y:=x) (HO2.out.below hb (zr _)) (HL2.out.low (hb.mono (by omega))) (Hb0.out.trans (hb.mono (by omega))) (by have:=hb.size;omega) (by omega) rfl h0);obtain ⟨T0,hT0⟩:∃ T,zak x 6=T:=⟨_,rfl⟩;obtain ⟨S0,hS0⟩:∃ S,bstr T0=S:=⟨_,rfl⟩;have hln0:S0.size≤1000000000000000:=by rw [← hS0,zaC,← hT0];exact hz0 _
 rw [hT0] at HA0;unfold TxtE at HA0;simp only [hS0] at HA0;have HS0:=zh (show S0=bstr (zak x 6) from by rw [hT0,hS0]);clear hT0 hS0;have hen:=zbf;have x0:=HO2.out.cell (i:=0) rfl;go_wp2_with fail
 refine (HA0.out _ (Below.refl _ _)).mono ?_;rintro e3 w3 ⟨rfl,hb3⟩;have Hw3:=zh hb3;clear hb3 HA0;clear x0;go_wp2_with fail
 refine bodyPost_ret (v:=.string (({ data:=#[45] }:ByteArray)++S0)) (by simp [results,Tryz.results63,go_sem]) rfl ⟨?_,HB2.out.trans (Hw3.out.mono HB2.out.size)⟩;rw [← HTX.out,HS0.out];simp [zax,zbV]
theorem zjc {w0 w:World} {B:Nat} {x:Ex} (h0:WrC w0 B x) (hz0:∀ k,(zak x k).length≤1000000000000000) {v:Value} (hL:EsL w B [x] v) (hb0:Below B w0 w) (hB:B≤w.heap.size) (lv:Nat) (hlv:lv≤5) :
  Calls Tryz.prog 63 #[.agg #[.int .u8 8,.int .i64 0,.string { data:=#[] },v],.int .i64 lv] w (TxtE ([33]++zak x 6) w):=by
 obtain ⟨a,cap,rfl,hc1,hc2⟩:=hL.form;have hmf:=zmf Tryz.prog
 obtain ⟨W0,hW0,hb1,hO0⟩:∃ W0,W0=w.alloc (.cells #[.int .u8 8,.int .i64 0,.string { data:=#[] },.slice a 1 cap] 29)∧Below w.heap.size w W0∧OwnV W0 w.heap.size 29 [.int .u8 8,.int .i64 0,.string { data:=#[] },.slice a 1 cap]:=⟨_,rfl,(Below.refl _ _).alloc (zr _) _,OwnV.new _ _ _⟩;have HBi:=zh (zbw 8 W0);have hB6:zar 8=6:=by decide
 rw [hB6,zbW hB6,show bstr []=({ data:=#[] }:ByteArray) from rfl] at HBi;obtain ⟨TX,hTX⟩:∃ T,([33]++zak x 6)=T:=⟨_,rfl⟩;rw [hTX];have HTX:=zh hTX;clear hTX;have HW0:=zh hW0;have HO0:=zh hO0;have Hb1:=zh hb1;have HL:=zh (hL.low (hb1.mono hB));have Hb0:=zh (hb0.trans (hb1.mono hB));have x0:=hO0.cell (i:=0) rfl;clear hW0 hO0 hb1 hL hb0;go_enter Tryz.func63,Tryz.ntmps63
 go_upto_region 1 with (fail)
 rw [← HW0.out];go_wp2_with fail
 go_at_call 97;refine HBi.out.mono ?_;rintro e1 w1 ⟨rfl,hb2⟩;have hs1:=hb2.size;have HO1:=zh (HO0.out.below hb2 (zr _));have HB1:=zh (Hb1.out.trans (hb2.mono Hb1.out.size));have hs0:=Hb1.out.size;have HL1:=zh (HL.out.low (hb2.mono (Nat.le_trans hB hs0)));have Hb0:=zh (Hb0.out.trans (hb2.mono (Nat.le_trans hB hs0)));have hlt1:=HO1.out.lt;clear hb2 x0 HO0 Hb1 HL HBi;have x0:=HO1.out.cell (i:=0) rfl;have HLv:=zh (za7 w1);go_wp2_with fail
 go_at_call 98;refine HLv.out.mono ?_;rintro e2 w2 ⟨rfl,-,hb3⟩;have hs2:=hb3.size;have HO2:=zh (HO1.out.below hb3 (zr _));have HB2:=zh (HB1.out.trans (hb3.mono HB1.out.size));have hs10:w.heap.size≤w1.heap.size:=HB1.out.size;have HL2:=zh (HL1.out.low (hb3.mono (Nat.le_trans hB hs10)));have Hb0:=zh (Hb0.out.trans (hb3.mono (Nat.le_trans hB hs10)));have hlt2:=HO2.out.lt;have hb23:B≤w2.heap.size:=by omega
 clear hb3 x0 HLv HO1 HL1 HB1;have HA0:Hid (∀ W,Below w2.heap.size w2 W→Calls Tryz.prog 96 #[.int .i64 0,.int .i64 5,.pointer (some ⟨w.heap.size,0,none⟩)] W (TxtE (zak x 6) W)):=zh (fun W hb=>za1 (w0:=w0) (i:=0) (lv:=5) (y:=x) (HO2.out.below hb (zr _)) (HL2.out.low (hb.mono (by omega))) (Hb0.out.trans (hb.mono (by omega))) (by have:=hb.size;omega) (by omega) rfl h0);obtain ⟨T0,hT0⟩:∃ T,zak x 6=T:=⟨_,rfl⟩;obtain ⟨S0,hS0⟩:∃ S,bstr T0=S:=⟨_,rfl⟩;have hln0:S0.size≤1000000000000000:=by rw [← hS0,zaC,← hT0];exact hz0 _
 rw [hT0] at HA0;unfold TxtE at HA0;simp only [hS0] at HA0;have HS0:=zh (show S0=bstr (zak x 6) from by rw [hT0,hS0]);clear hT0 hS0;have hen:=zbf;have x0:=HO2.out.cell (i:=0) rfl;go_wp2_with fail
 refine (HA0.out _ (Below.refl _ _)).mono ?_;rintro e3 w3 ⟨rfl,hb3⟩;have Hw3:=zh hb3;clear hb3 HA0;clear x0;go_wp2_with fail
 refine bodyPost_ret (v:=.string (({ data:=#[33] }:ByteArray)++S0)) (by simp [results,Tryz.results63,go_sem]) rfl ⟨?_,HB2.out.trans (Hw3.out.mono HB2.out.size)⟩;rw [← HTX.out,HS0.out];simp [zax,zbV]
theorem ziu {w0 w:World} {B:Nat} {x:Ex} (h0:WrC w0 B x) (hz0:∀ k,(zak x k).length≤1000000000000000) {v:Value} (hL:EsL w B [x] v) (hb0:Below B w0 w) (hB:B≤w.heap.size) (lv:Nat) (hlv:lv≤5) :
  Calls Tryz.prog 63 #[.agg #[.int .u8 6,.int .i64 0,.string { data:=#[] },v],.int .i64 lv] w (TxtE ([114,97,110,100,40]++zak x 1++[41]) w):=by
 obtain ⟨a,cap,rfl,hc1,hc2⟩:=hL.form;have hmf:=zmf Tryz.prog
 obtain ⟨W0,hW0,hb1,hO0⟩:∃ W0,W0=w.alloc (.cells #[.int .u8 6,.int .i64 0,.string { data:=#[] },.slice a 1 cap] 29)∧Below w.heap.size w W0∧OwnV W0 w.heap.size 29 [.int .u8 6,.int .i64 0,.string { data:=#[] },.slice a 1 cap]:=⟨_,rfl,(Below.refl _ _).alloc (zr _) _,OwnV.new _ _ _⟩;have HBi:=zh (zbw 6 W0);have hB6:zar 6=6:=by decide
 rw [hB6,zbW hB6,show bstr []=({ data:=#[] }:ByteArray) from rfl] at HBi;obtain ⟨TX,hTX⟩:∃ T,([114,97,110,100,40]++zak x 1++[41])=T:=⟨_,rfl⟩;rw [hTX];have HTX:=zh hTX;clear hTX;have HW0:=zh hW0;have HO0:=zh hO0;have Hb1:=zh hb1;have HL:=zh (hL.low (hb1.mono hB));have Hb0:=zh (hb0.trans (hb1.mono hB));have x0:=hO0.cell (i:=0) rfl;clear hW0 hO0 hb1 hL hb0;go_enter Tryz.func63,Tryz.ntmps63
 go_upto_region 1 with (fail)
 rw [← HW0.out];go_wp2_with fail
 go_at_call 97;refine HBi.out.mono ?_;rintro e1 w1 ⟨rfl,hb2⟩;have hs1:=hb2.size;have HO1:=zh (HO0.out.below hb2 (zr _));have HB1:=zh (Hb1.out.trans (hb2.mono Hb1.out.size));have hs0:=Hb1.out.size;have HL1:=zh (HL.out.low (hb2.mono (Nat.le_trans hB hs0)));have Hb0:=zh (Hb0.out.trans (hb2.mono (Nat.le_trans hB hs0)));have hlt1:=HO1.out.lt;clear hb2 x0 HO0 Hb1 HL HBi;have x0:=HO1.out.cell (i:=0) rfl;have HLv:=zh (za7 w1);go_wp2_with fail
 go_at_call 98;refine HLv.out.mono ?_;rintro e2 w2 ⟨rfl,-,hb3⟩;have hs2:=hb3.size;have HO2:=zh (HO1.out.below hb3 (zr _));have HB2:=zh (HB1.out.trans (hb3.mono HB1.out.size));have hs10:w.heap.size≤w1.heap.size:=HB1.out.size;have HL2:=zh (HL1.out.low (hb3.mono (Nat.le_trans hB hs10)));have Hb0:=zh (Hb0.out.trans (hb3.mono (Nat.le_trans hB hs10)));have hlt2:=HO2.out.lt;have hb23:B≤w2.heap.size:=by omega
 clear hb3 x0 HLv HO1 HL1 HB1;have HA0:Hid (∀ W,Below w2.heap.size w2 W→Calls Tryz.prog 96 #[.int .i64 0,.int .i64 0,.pointer (some ⟨w.heap.size,0,none⟩)] W (TxtE (zak x 1) W)):=zh (fun W hb=>za1 (w0:=w0) (i:=0) (lv:=0) (y:=x) (HO2.out.below hb (zr _)) (HL2.out.low (hb.mono (by omega))) (Hb0.out.trans (hb.mono (by omega))) (by have:=hb.size;omega) (by omega) rfl h0);obtain ⟨T0,hT0⟩:∃ T,zak x 1=T:=⟨_,rfl⟩;obtain ⟨S0,hS0⟩:∃ S,bstr T0=S:=⟨_,rfl⟩;have hln0:S0.size≤1000000000000000:=by rw [← hS0,zaC,← hT0];exact hz0 _
 rw [hT0] at HA0;unfold TxtE at HA0;simp only [hS0] at HA0;have HS0:=zh (show S0=bstr (zak x 1) from by rw [hT0,hS0]);clear hT0 hS0;have hen:=zbf;have x0:=HO2.out.cell (i:=0) rfl;go_wp2_with fail
 refine (HA0.out _ (Below.refl _ _)).mono ?_;rintro e3 w3 ⟨rfl,hb3⟩;have Hw3:=zh hb3;clear hb3 HA0;clear x0;go_wp2_with fail
 refine bodyPost_ret (v:=.string (({ data:=#[114,97,110,100,40] }:ByteArray)++S0++{ data:=#[41] })) (by simp [results,Tryz.results63,go_sem]) rfl ⟨?_,HB2.out.trans (Hw3.out.mono HB2.out.size)⟩;rw [← HTX.out,HS0.out];simp [zax,zbV]
theorem zjd {w0 w:World} {B:Nat} {x:Ex} (h0:WrC w0 B x) (hz0:∀ k,(zak x k).length≤1000000000000000) {v:Value} (hL:EsL w B [x] v) (hb0:Below B w0 w) (hB:B≤w.heap.size) (lv:Nat) (hlv:lv≤5) :
  Calls Tryz.prog 63 #[.agg #[.int .u8 9,.int .i64 0,.string { data:=#[] },v],.int .i64 lv] w (TxtE ([97,98,115,40]++zak x 1++[41]) w):=by
 obtain ⟨a,cap,rfl,hc1,hc2⟩:=hL.form;have hmf:=zmf Tryz.prog
 obtain ⟨W0,hW0,hb1,hO0⟩:∃ W0,W0=w.alloc (.cells #[.int .u8 9,.int .i64 0,.string { data:=#[] },.slice a 1 cap] 29)∧Below w.heap.size w W0∧OwnV W0 w.heap.size 29 [.int .u8 9,.int .i64 0,.string { data:=#[] },.slice a 1 cap]:=⟨_,rfl,(Below.refl _ _).alloc (zr _) _,OwnV.new _ _ _⟩;have HBi:=zh (zbw 9 W0);have hB6:zar 9=6:=by decide
 rw [hB6,zbW hB6,show bstr []=({ data:=#[] }:ByteArray) from rfl] at HBi;obtain ⟨TX,hTX⟩:∃ T,([97,98,115,40]++zak x 1++[41])=T:=⟨_,rfl⟩;rw [hTX];have HTX:=zh hTX;clear hTX;have HW0:=zh hW0;have HO0:=zh hO0;have Hb1:=zh hb1;have HL:=zh (hL.low (hb1.mono hB));have Hb0:=zh (hb0.trans (hb1.mono hB));have x0:=hO0.cell (i:=0) rfl;clear hW0 hO0 hb1 hL hb0;go_enter Tryz.func63,Tryz.ntmps63
 go_upto_region 1 with (fail)
 rw [← HW0.out];go_wp2_with fail
 go_at_call 97;refine HBi.out.mono ?_;rintro e1 w1 ⟨rfl,hb2⟩;have hs1:=hb2.size;have HO1:=zh (HO0.out.below hb2 (zr _));have HB1:=zh (Hb1.out.trans (hb2.mono Hb1.out.size));have hs0:=Hb1.out.size;have HL1:=zh (HL.out.low (hb2.mono (Nat.le_trans hB hs0)));have Hb0:=zh (Hb0.out.trans (hb2.mono (Nat.le_trans hB hs0)));have hlt1:=HO1.out.lt;clear hb2 x0 HO0 Hb1 HL HBi;have x0:=HO1.out.cell (i:=0) rfl;have HLv:=zh (za7 w1);go_wp2_with fail
 go_at_call 98;refine HLv.out.mono ?_;rintro e2 w2 ⟨rfl,-,hb3⟩;have hs2:=hb3.size;have HO2:=zh (HO1.out.below hb3 (zr _));have HB2:=zh (HB1.out.trans (hb3.mono HB1.out.size));have hs10:w.heap.size≤w1.heap.size:=HB1.out.size;have HL2:=zh (HL1.out.low (hb3.mono (Nat.le_trans hB hs10)));have Hb0:=zh (Hb0.out.trans (hb3.mono (Nat.le_trans hB hs10)));have hlt2:=HO2.out.lt;have hb23:B≤w2.heap.size:=by omega
 clear hb3 x0 HLv HO1 HL1 HB1;have HA0:Hid (∀ W,Below w2.heap.size w2 W→Calls Tryz.prog 96 #[.int .i64 0,.int .i64 0,.pointer (some ⟨w.heap.size,0,none⟩)] W (TxtE (zak x 1) W)):=zh (fun W hb=>za1 (w0:=w0) (i:=0) (lv:=0) (y:=x) (HO2.out.below hb (zr _)) (HL2.out.low (hb.mono (by omega))) (Hb0.out.trans (hb.mono (by omega))) (by have:=hb.size;omega) (by omega) rfl h0);obtain ⟨T0,hT0⟩:∃ T,zak x 1=T:=⟨_,rfl⟩;obtain ⟨S0,hS0⟩:∃ S,bstr T0=S:=⟨_,rfl⟩;have hln0:S0.size≤1000000000000000:=by rw [← hS0,zaC,← hT0];exact hz0 _
 rw [hT0] at HA0;unfold TxtE at HA0;simp only [hS0] at HA0;have HS0:=zh (show S0=bstr (zak x 1) from by rw [hT0,hS0]);clear hT0 hS0;have hen:=zbf;have x0:=HO2.out.cell (i:=0) rfl;go_wp2_with fail
 refine (HA0.out _ (Below.refl _ _)).mono ?_;rintro e3 w3 ⟨rfl,hb3⟩;have Hw3:=zh hb3;clear hb3 HA0;clear x0;go_wp2_with fail
 refine bodyPost_ret (v:=.string (({ data:=#[97,98,115,40] }:ByteArray)++S0++{ data:=#[41] })) (by simp [results,Tryz.results63,go_sem]) rfl ⟨?_,HB2.out.trans (Hw3.out.mono HB2.out.size)⟩;rw [← HTX.out,HS0.out];simp [zax,zbV]
theorem zje {w0 w:World} {B:Nat} {x y:Ex} (h0:WrC w0 B x) (h1:WrC w0 B y) (hz0:∀ k,(zak x k).length≤1000000000000000) (hz1:∀ k,(zak y k).length≤1000000000000000) {v:Value} (hL:EsL w B [x,y] v) (hb0:Below B w0 w) (hB:B≤w.heap.size) (lv:Nat) (hlv:lv≤5) :
  Calls Tryz.prog 63 #[.agg #[.int .u8 23,.int .i64 0,.string { data:=#[] },v],.int .i64 lv] w (TxtE ([109,105,110,40]++zak x 1++[44,32]++zak y 1++[41]) w):=by
 obtain ⟨a,cap,rfl,hc1,hc2⟩:=hL.form;have hmf:=zmf Tryz.prog
 obtain ⟨W0,hW0,hb1,hO0⟩:∃ W0,W0=w.alloc (.cells #[.int .u8 23,.int .i64 0,.string { data:=#[] },.slice a 2 cap] 29)∧Below w.heap.size w W0∧OwnV W0 w.heap.size 29 [.int .u8 23,.int .i64 0,.string { data:=#[] },.slice a 2 cap]:=⟨_,rfl,(Below.refl _ _).alloc (zr _) _,OwnV.new _ _ _⟩;have HBi:=zh (zbw 23 W0);have hB6:zar 23=6:=by decide
 rw [hB6,zbW hB6,show bstr []=({ data:=#[] }:ByteArray) from rfl] at HBi;obtain ⟨TX,hTX⟩:∃ T,([109,105,110,40]++zak x 1++[44,32]++zak y 1++[41])=T:=⟨_,rfl⟩;rw [hTX];have HTX:=zh hTX;clear hTX;have HW0:=zh hW0;have HO0:=zh hO0;have Hb1:=zh hb1;have HL:=zh (hL.low (hb1.mono hB));have Hb0:=zh (hb0.trans (hb1.mono hB));have x0:=hO0.cell (i:=0) rfl;clear hW0 hO0 hb1 hL hb0;go_enter Tryz.func63,Tryz.ntmps63
 go_upto_region 1 with (fail)
 rw [← HW0.out];go_wp2_with fail
 go_at_call 97;refine HBi.out.mono ?_;rintro e1 w1 ⟨rfl,hb2⟩;have hs1:=hb2.size;have HO1:=zh (HO0.out.below hb2 (zr _));have HB1:=zh (Hb1.out.trans (hb2.mono Hb1.out.size));have hs0:=Hb1.out.size;have HL1:=zh (HL.out.low (hb2.mono (Nat.le_trans hB hs0)));have Hb0:=zh (Hb0.out.trans (hb2.mono (Nat.le_trans hB hs0)));have hlt1:=HO1.out.lt;clear hb2 x0 HO0 Hb1 HL HBi;have x0:=HO1.out.cell (i:=0) rfl;have HLv:=zh (za7 w1);go_wp2_with fail
 go_at_call 98;refine HLv.out.mono ?_;rintro e2 w2 ⟨rfl,-,hb3⟩;have hs2:=hb3.size;have HO2:=zh (HO1.out.below hb3 (zr _));have HB2:=zh (HB1.out.trans (hb3.mono HB1.out.size));have hs10:w.heap.size≤w1.heap.size:=HB1.out.size;have HL2:=zh (HL1.out.low (hb3.mono (Nat.le_trans hB hs10)));have Hb0:=zh (Hb0.out.trans (hb3.mono (Nat.le_trans hB hs10)));have hlt2:=HO2.out.lt;have hb23:B≤w2.heap.size:=by omega
 clear hb3 x0 HLv HO1 HL1 HB1;have HA0:Hid (∀ W,Below w2.heap.size w2 W→Calls Tryz.prog 96 #[.int .i64 0,.int .i64 0,.pointer (some ⟨w.heap.size,0,none⟩)] W (TxtE (zak x 1) W)):=zh (fun W hb=>za1 (w0:=w0) (i:=0) (lv:=0) (y:=x) (HO2.out.below hb (zr _)) (HL2.out.low (hb.mono (by omega))) (Hb0.out.trans (hb.mono (by omega))) (by have:=hb.size;omega) (by omega) rfl h0);obtain ⟨T0,hT0⟩:∃ T,zak x 1=T:=⟨_,rfl⟩;obtain ⟨S0,hS0⟩:∃ S,bstr T0=S:=⟨_,rfl⟩;have hln0:S0.size≤1000000000000000:=by rw [← hS0,zaC,← hT0];exact hz0 _
 rw [hT0] at HA0;unfold TxtE at HA0;simp only [hS0] at HA0;have HS0:=zh (show S0=bstr (zak x 1) from by rw [hT0,hS0]);clear hT0 hS0;have HA1:Hid (∀ W,Below w2.heap.size w2 W→Calls Tryz.prog 96 #[.int .i64 1,.int .i64 0,.pointer (some ⟨w.heap.size,0,none⟩)] W (TxtE (zak y 1) W)):=zh (fun W hb=>za1 (w0:=w0) (i:=1) (lv:=0) (y:=y) (HO2.out.below hb (zr _)) (HL2.out.low (hb.mono (by omega))) (Hb0.out.trans (hb.mono (by omega))) (by have:=hb.size;omega) (by omega) rfl h1);obtain ⟨T1,hT1⟩:∃ T,zak y 1=T:=⟨_,rfl⟩;obtain ⟨S1,hS1⟩:∃ S,bstr T1=S:=⟨_,rfl⟩;have hln1:S1.size≤1000000000000000:=by rw [← hS1,zaC,← hT1];exact hz1 _
 rw [hT1] at HA1;unfold TxtE at HA1;simp only [hS1] at HA1;have HS1:=zh (show S1=bstr (zak y 1) from by rw [hT1,hS1]);clear hT1 hS1;have hen:=zbf;have x0:=HO2.out.cell (i:=0) rfl;go_wp2_with fail
 refine (HA0.out _ (Below.refl _ _)).mono ?_;rintro e3 w3 ⟨rfl,hb3⟩;have Hw3:=zh hb3;clear hb3 HA0;clear x0;go_wp2_with fail
 refine (HA1.out _ Hw3.out).mono ?_;rintro e4 w4 ⟨rfl,hb3⟩;have Hw4:=zh (Hw3.out.trans (hb3.mono Hw3.out.size));clear hb3 HA1;go_wp2_with fail
 refine bodyPost_ret (v:=.string ((({ data:=#[109,105,110,40] }:ByteArray)++S0++{ data:=#[44,32] })++S1++{ data:=#[41] })) (by simp [results,Tryz.results63,go_sem]) rfl ⟨?_,HB2.out.trans (Hw4.out.mono HB2.out.size)⟩;rw [← HTX.out,HS0.out,HS1.out];simp [zax,zbV]
theorem zjf {w0 w:World} {B:Nat} {x y:Ex} (h0:WrC w0 B x) (h1:WrC w0 B y) (hz0:∀ k,(zak x k).length≤1000000000000000) (hz1:∀ k,(zak y k).length≤1000000000000000) {v:Value} (hL:EsL w B [x,y] v) (hb0:Below B w0 w) (hB:B≤w.heap.size) (lv:Nat) (hlv:lv≤5) :
  Calls Tryz.prog 63 #[.agg #[.int .u8 24,.int .i64 0,.string { data:=#[] },v],.int .i64 lv] w (TxtE ([109,97,120,40]++zak x 1++[44,32]++zak y 1++[41]) w):=by
 obtain ⟨a,cap,rfl,hc1,hc2⟩:=hL.form;have hmf:=zmf Tryz.prog
 obtain ⟨W0,hW0,hb1,hO0⟩:∃ W0,W0=w.alloc (.cells #[.int .u8 24,.int .i64 0,.string { data:=#[] },.slice a 2 cap] 29)∧Below w.heap.size w W0∧OwnV W0 w.heap.size 29 [.int .u8 24,.int .i64 0,.string { data:=#[] },.slice a 2 cap]:=⟨_,rfl,(Below.refl _ _).alloc (zr _) _,OwnV.new _ _ _⟩;have HBi:=zh (zbw 24 W0);have hB6:zar 24=6:=by decide
 rw [hB6,zbW hB6,show bstr []=({ data:=#[] }:ByteArray) from rfl] at HBi;obtain ⟨TX,hTX⟩:∃ T,([109,97,120,40]++zak x 1++[44,32]++zak y 1++[41])=T:=⟨_,rfl⟩;rw [hTX];have HTX:=zh hTX;clear hTX;have HW0:=zh hW0;have HO0:=zh hO0;have Hb1:=zh hb1;have HL:=zh (hL.low (hb1.mono hB));have Hb0:=zh (hb0.trans (hb1.mono hB));have x0:=hO0.cell (i:=0) rfl;clear hW0 hO0 hb1 hL hb0;go_enter Tryz.func63,Tryz.ntmps63
 go_upto_region 1 with (fail)
 rw [← HW0.out];go_wp2_with fail
 go_at_call 97;refine HBi.out.mono ?_;rintro e1 w1 ⟨rfl,hb2⟩;have hs1:=hb2.size;have HO1:=zh (HO0.out.below hb2 (zr _));have HB1:=zh (Hb1.out.trans (hb2.mono Hb1.out.size));have hs0:=Hb1.out.size;have HL1:=zh (HL.out.low (hb2.mono (Nat.le_trans hB hs0)));have Hb0:=zh (Hb0.out.trans (hb2.mono (Nat.le_trans hB hs0)));have hlt1:=HO1.out.lt;clear hb2 x0 HO0 Hb1 HL HBi;have x0:=HO1.out.cell (i:=0) rfl;have HLv:=zh (za7 w1);go_wp2_with fail
 go_at_call 98;refine HLv.out.mono ?_;rintro e2 w2 ⟨rfl,-,hb3⟩;have hs2:=hb3.size;have HO2:=zh (HO1.out.below hb3 (zr _));have HB2:=zh (HB1.out.trans (hb3.mono HB1.out.size));have hs10:w.heap.size≤w1.heap.size:=HB1.out.size;have HL2:=zh (HL1.out.low (hb3.mono (Nat.le_trans hB hs10)));have Hb0:=zh (Hb0.out.trans (hb3.mono (Nat.le_trans hB hs10)));have hlt2:=HO2.out.lt;have hb23:B≤w2.heap.size:=by omega
 clear hb3 x0 HLv HO1 HL1 HB1;have HA0:Hid (∀ W,Below w2.heap.size w2 W→Calls Tryz.prog 96 #[.int .i64 0,.int .i64 0,.pointer (some ⟨w.heap.size,0,none⟩)] W (TxtE (zak x 1) W)):=zh (fun W hb=>za1 (w0:=w0) (i:=0) (lv:=0) (y:=x) (HO2.out.below hb (zr _)) (HL2.out.low (hb.mono (by omega))) (Hb0.out.trans (hb.mono (by omega))) (by have:=hb.size;omega) (by omega) rfl h0);obtain ⟨T0,hT0⟩:∃ T,zak x 1=T:=⟨_,rfl⟩;obtain ⟨S0,hS0⟩:∃ S,bstr T0=S:=⟨_,rfl⟩;have hln0:S0.size≤1000000000000000:=by rw [← hS0,zaC,← hT0];exact hz0 _
 rw [hT0] at HA0;unfold TxtE at HA0;simp only [hS0] at HA0;have HS0:=zh (show S0=bstr (zak x 1) from by rw [hT0,hS0]);clear hT0 hS0;have HA1:Hid (∀ W,Below w2.heap.size w2 W→Calls Tryz.prog 96 #[.int .i64 1,.int .i64 0,.pointer (some ⟨w.heap.size,0,none⟩)] W (TxtE (zak y 1) W)):=zh (fun W hb=>za1 (w0:=w0) (i:=1) (lv:=0) (y:=y) (HO2.out.below hb (zr _)) (HL2.out.low (hb.mono (by omega))) (Hb0.out.trans (hb.mono (by omega))) (by have:=hb.size;omega) (by omega) rfl h1);obtain ⟨T1,hT1⟩:∃ T,zak y 1=T:=⟨_,rfl⟩;obtain ⟨S1,hS1⟩:∃ S,bstr T1=S:=⟨_,rfl⟩;have hln1:S1.size≤1000000000000000:=by rw [← hS1,zaC,← hT1];exact hz1 _
 rw [hT1] at HA1;unfold TxtE at HA1;simp only [hS1] at HA1;have HS1:=zh (show S1=bstr (zak y 1) from by rw [hT1,hS1]);clear hT1 hS1;have hen:=zbf;have x0:=HO2.out.cell (i:=0) rfl;go_wp2_with fail
 refine (HA0.out _ (Below.refl _ _)).mono ?_;rintro e3 w3 ⟨rfl,hb3⟩;have Hw3:=zh hb3;clear hb3 HA0;clear x0;go_wp2_with fail
 refine (HA1.out _ Hw3.out).mono ?_;rintro e4 w4 ⟨rfl,hb3⟩;have Hw4:=zh (Hw3.out.trans (hb3.mono Hw3.out.size));clear hb3 HA1;go_wp2_with fail
 refine bodyPost_ret (v:=.string ((({ data:=#[109,97,120,40] }:ByteArray)++S0++{ data:=#[44,32] })++S1++{ data:=#[41] })) (by simp [results,Tryz.results63,go_sem]) rfl ⟨?_,HB2.out.trans (Hw4.out.mono HB2.out.size)⟩;rw [← HTX.out,HS0.out,HS1.out];simp [zax,zbV]
end Go.Proofs.YtoaojdobjinhfaaGreatDoor
