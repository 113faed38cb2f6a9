/- The program's printer: binds, short, walked. -/
import Derived.Test.YtdhikpkecmaplaaGreatDoorBackMNk
import Derived.Test.YtdhikpkecmaplaaGreatDoorPaHMk
import Derived.Test.YtdhikpkecmaplaaGreatDoorQFuncMk
set_option linter.unusedSimpArgs false
set_option linter.unusedVariables false
set_option maxRecDepth 100000
set_option maxHeartbeats 1000000
namespace Go.Proofs.YtdhikpkecmaplaaGreatDoor
open Go.RowKit

theorem zmC (n:Nat) (hn:n < 5):∀ x ∈ lvl n,zar x.2=n+1/\zaO x.2=x.1:=by
 have:n=0∨n=1∨n=2∨n=3∨n=4:=by omega
 rcases this with rfl | rfl | rfl | rfl | rfl <;> decide
theorem zmD {op:Int} (h:∀ m,m < 5->∀ x ∈ lvl m,x.2≠op):zar op=6:=by
 unfold zar;by_cases ho:10<=op/\op<=22
 ·exfalso;have h0:=h 0 (by omega);have h1:=h 1 (by omega);have h2:=h 2 (by omega);have h3:=h 3 (by omega);have h4:=h 4 (by omega);simp [lvl] at h0 h1 h2 h3 h4;omega
 ·rw [yN ho]
def zdk (op : Int) : List UInt8 := if zar op < 6 then zaO op else []
theorem znl (n:Nat) (hn:n < 5):(lvl n).length<=6:=by
 have:n=0∨n=1∨n=2∨n=3∨n=4:=by omega
 rcases this with rfl | rfl | rfl | rfl | rfl <;> decide
theorem zbw (op:Int) (w:World) :
  Calls Tryz.prog 141 #[.int .u8 op] w fun e w'=>e=.returned (.tuple #[.int .i64 ((zar op:Int) - 1),.string (bstr (zdk op))])/\Below w.heap.size w w':=by
 have HL:=zh (za7 w);obtain ⟨B,hB⟩:∃ B,((zar op:Int) - 1)=B:=⟨_,rfl⟩;obtain ⟨T,hT⟩:∃ T,bstr (zdk op)=T:=⟨_,rfl⟩
 have HYes:Hid (∀ n x,n < 5->x ∈ lvl n->x.2=op->B=n/\T=bstr x.1):=zh (fun n x hn hx e=>by
  obtain ⟨h1,h2⟩:=zmC n hn x hx;rw [e] at h1 h2;rw [<- hB,<- hT,h1];refine ⟨by omega,?_⟩;unfold zdk
  rw [yP (by omega),h2])
 have HNo:Hid ((∀ m,m < 5->∀ x ∈ lvl m,x.2≠op)->B=5/\T={ data:=#[] }):=zh (fun h=>by
  have h6:=zmD h;rw [<- hB,<- hT,h6];refine ⟨by omega,?_⟩;unfold zdk;rw [yN (by omega)]
  rfl)
 rw [hB,hT];clear hB hT;go_enter Tryz.func141,Tryz.ntmps141
 go_wp2_with fail
 go_at_call 142;refine HL.out.mono ?_;rintro e1 w1 ⟨rfl,hrow,hb1⟩;have HRow:=zh hrow;have Hb1:=zh hb1;have hs1:w.heap.size<=w1.heap.size:=hb1.size;clear hrow hb1 HL;go_wp2_with fail
 go_loopw [2,3,4,5,7,9,10,11,12,13,14,15,16,17,18,19,20,21,22,23,24,25,26,27] (fun _ _ _ _ _ t9 _ _ _ _ _ _ _ _ _ _ _ _ _ _ _ _ _ _ wr=>∃ n:Nat,t9=.int .i64 n/\n<=5/\Hid (∀ m,m < n->∀ x ∈ lvl m,x.2≠op)/\Hid (∀ m,m < 5->OwnV wr (w.heap.size+1+m) 272 (sgC (lvl m)))/\Hid (Below w.heap.size w wr)) (fun _ _ _ _ _ t9 _ _ _ _ _ _ _ _ _ _ _ _ _ _ _ _ _ _ _=>5 - (intOf t9).toNat)
 case atStart=>exact ⟨0,by first | rfl | go_num,by omega,zh (fun m hm=>by omega),HRow,Hb1⟩
 case round =>
  obtain ⟨n,rfl,hn5,HP,HR,HB⟩:=hrel;obtain hn | hn:n=5∨n < 5:=by omega
  ·-- znZ the loop
   have hc:¬ ((n:Int) < 5):=by omega
   obtain ⟨rfl,rfl⟩:=HNo.out (fun m hm x hx=>HP.out m (by omega) x hx);have HL2:=zh (za7 wr);clear HNo HYes HP HR HRow;go_wp2_with fail
   go_at_call 142;refine HL2.out.mono ?_;rintro e2 w2 ⟨rfl,-,hb2⟩;have Hb2:=zh (HB.out.trans (hb2.mono HB.out.size));clear hb2;go_wp2_with fail
   exact yE (v:=.tuple #[.int .i64 5,.string { data:=#[] }]) (by simp [results,Tryz.results141,go_sem]) rfl ⟨rfl,Hb2.out⟩
  ·have hc:(n:Int) < 5:=by omega
   have hix:=zg7 n hn w.heap.size;have hl6:=znl n hn
   generalize hlv:lvl n=lv at *
   have Hlv:=zh hlv;clear hlv;go_wp2_with fail
   go_loopw [2,3,7,15,16,17,18,19,20,21,22,23,24,25,26] (fun _ _ _ t15 _ _ _ _ _ _ _ _ _ _ _ wr=>∃ k:Nat,t15=.int .i64 k/\k<=lv.length/\Hid (∀ j x,j < k->lv[j]? = some x->x.2≠op)/\Hid (∀ m,m < 5->OwnV wr (w.heap.size+1+m) 272 (sgC (lvl m)))/\Hid (Below w.heap.size w wr)) (fun _ _ _ t15 _ _ _ _ _ _ _ _ _ _ _ _=>lv.length - (intOf t15).toNat)
   case atStart=>exact ⟨0,by first | rfl | go_num,by omega,zh (fun j x hj=>by omega),HR,HB⟩
   case round =>
    obtain ⟨k,rfl,hk,HQ,HR2,HB2⟩:=hrel;obtain hkl | hkl:k=lv.length∨k < lv.length:=by omega
    ·have hck:¬ ((k:Int) < (lv.length:Int)):=by omega
     go_wp2_with fail
     go_roundw
     case measure=>show 5 - ((n:Int)+1).toNat < 5 - (n:Int).toNat;omega
     case rel=>exact ⟨n+1,by first | rfl | go_num,by omega,zh (fun m hm x hx=>by
      rcases Nat.lt_or_ge m n with h | h
      ·exact HP.out m h x hx
      ·obtain rfl:m=n:=by omega
       rw [Hlv.out] at hx;obtain ⟨j,hj,e⟩:=List.getElem_of_mem hx
       exact HQ.out j x (by omega) (by rw [yD hj,e])),HR2,HB2⟩
    ·have hck:(k:Int) < (lv.length:Int):=by omega
     have hk0:(0:Int)<=(k:Int):=by omega
     have hO:=HR2.out n hn;rw [Hlv.out] at hO;obtain ⟨s0,s1⟩:=zgm hO hkl;have hxl:lv[k] ∈ lvl n:=by rw [Hlv.out];exact List.getElem_mem hkl
     have HY:=zh (HYes.out n lv[k] hn hxl);have Hk1:Hid (∀ x,lv[k]? = some x->x=lv[k]):=zh (fun x e=>by rw [yD hkl] at e;cases e;rfl)
     generalize lv[k]=X at *
     obtain ⟨xs,xo⟩:=X;have hlt:=hO.lt;obtain ⟨W7,hW7,hb7,hO7⟩:∃ W7,W7=wr.alloc (.cells #[.string (bstr xs),.int .u8 xo] 272)/\Below wr.heap.size wr W7/\OwnV W7 wr.heap.size 272 [.string (bstr xs),.int .u8 xo]:=⟨_,rfl,(yR _ _).alloc (zr _) _,OwnV.new _ _ _⟩;obtain ⟨t0,t1⟩:=yc2 hO7;have HB7:=zh (HB2.out.trans (hb7.mono HB2.out.size));have HR7:Hid (∀ m,m < 5->OwnV W7 (w.heap.size+1+m) 272 (sgC (lvl m))):=zh (fun m hm=>(HR2.out m hm).below hb7 (zr _));have HW7:=zh hW7;clear hO hW7 hb7 hO7 hxl;go_upto_region 7 with (fail)
     rw [<- HW7.out];obtain ⟨q,hq⟩:∃ q,(xo == op)=q:=⟨_,rfl⟩
     cases q with
     | true =>
      have he:xo=op:=by simpa using hq
      obtain ⟨rfl,rfl⟩:=HY.out he;clear he;go_upto_region 8 with (fail)
      go_quiet (fail)
      go_wp2_with fail
      exact yE (v:=.tuple #[.int .i64 n,.string (bstr xs)]) (by simp [results,Tryz.results141,go_sem]) rfl ⟨rfl,Below.drewN HB7.out nq⟩
     | false =>
      have he:xo≠op:=by simpa using hq
      have He:=zh he;clear he;go_wp2_with fail
      go_roundw
      case measure=>show lv.length - ((k:Int)+1).toNat < lv.length - (k:Int).toNat;omega
      case rel=>exact ⟨k+1,by first | rfl | go_num,by omega,zh (fun j x hj e=>by
       rcases Nat.lt_or_ge j k with h | h
       ·exact HQ.out j x h e
       ·obtain rfl:j=k:=by omega
        rw [Hk1.out x e];exact He.out),HR7,HB7⟩
theorem zhe (s:ByteArray) (w:World) :
  Calls Tryz.prog 71 #[.string s] w fun e w'=>e=.returned (.tuple #[.string (if 16384 < s.size then { data:=#[] } else s),.int .i64 (if 16384 < s.size then 3 else 0)])/\w'=w:=by
 by_cases h:16384 < s.size
 ·have h1:(s.size:Int) > 16384:=by omega
  rw [yP h,yP h];go_enter Tryz.func71,Tryz.ntmps71
  go_wp2_with fail
  exact yE (v:=.tuple #[.string { data:=#[] },.int .i64 3]) (by simp [results,Tryz.results71,go_sem]) rfl ⟨rfl,rfl⟩
 ·have h1:¬ (s.size:Int) > 16384:=by omega
  rw [yN h,yN h];go_enter Tryz.func71,Tryz.ntmps71
  go_wp2_with fail
  exact yE (v:=.tuple #[.string s,.int .i64 0]) (by simp [results,Tryz.results71,go_sem]) rfl ⟨rfl,rfl⟩
theorem zbV (l:List UInt8):({ data:=l.toArray }:ByteArray)=bstr l:=rfl

def TxtE (T : List UInt8) (w : World) (e : Ending) (w' : World) : Prop := e = .returned (.string (bstr T)) /\ Below w.heap.size w w'
def WrC (w0 : World) (B : Nat) (x : Ex) : Prop := ∀ (op n : Int) (name : List UInt8) (args : List Ex) (v : Value) (w : World) (lv : Nat), x = .mk op n name args -> Below B w0 w -> B <= w.heap.size -> EsL w B args v -> lv <= 5 -> Calls Tryz.prog 111 #[.agg #[.int .u8 op, .int .i64 n, .string (bstr name), v], .int .i64 lv] w (TxtE (zak x (lv + 1)) w)
theorem zbW {op:Int} (h:zar op=6):zdk op=[]:=by unfold zdk;rw [yN (by omega)]
theorem zax (a b:List UInt8):bstr a++bstr b=bstr (a++b):=by
 unfold bstr;simp [ByteArray.append,ByteArray.ext_iff]
theorem zaC (a:List UInt8):(bstr a).size=a.length:=by simp [bstr,ByteArray.size]
theorem za1 {w0 w:World} {gx B:Nat} {v0 v1 v2:Value} {args:List Ex} {a:Option Addr} {cap i lv:Nat} {y:Ex} (hg:OwnV w gx 193 [v0,v1,v2,.slice a args.length cap]) (hL:EsL w B args (.slice a args.length cap)) (hb0:Below B w0 w) (hB:B<=w.heap.size) (hlv:lv<=5) (hi:args[i]? = some y) (hW:WrC w0 B y) :
  Calls Tryz.prog 140 #[.int .i64 i,.int .i64 lv,.pointer (some ⟨gx,0,none⟩)] w (TxtE (zak y (lv+1)) w):=by
 have hil:i < args.length:=by
  rcases Nat.lt_or_ge i args.length with h | h
  ·exact h
  ·rw [List.getElem?_eq_none h] at hi;cases hi
 obtain ⟨b,off,op,n,name,args',aa,ac,rfl,hb,hbw,hy,c0,c1,c2,c3,hL'⟩:=hL.at hil;rw [hi] at hy;cases hy;have HC:=zh (hW op n name args' _ w lv rfl hb0 hB hL' hlv);obtain ⟨T,hT⟩:∃ T,zak (.mk op n name args') (lv+1)=T:=⟨_,rfl⟩;rw [hT] at HC ⊢;have x3:=hg.cell (i:=3) rfl;obtain ⟨_,_,hcap1,hcap2,hcap3⟩:=hL.form;cases hcap1;have hi1:(i:Int) < (args.length:Int):=by omega
 have hi0:(0:Int)<=(i:Int):=by omega
 clear hT hW hg hL hi hb0 hL';go_enter Tryz.func140,Tryz.ntmps140
 go_wp2_with fail
 go_at_call 111;refine HC.out.mono ?_;rintro e1 w1 ⟨rfl,hb1⟩;have Hb1:=zh hb1;clear hb1 c0 c1 c2 c3 x3;go_wp2_with fail
 exact yE (v:=.string (bstr T)) (by simp [results,Tryz.results140,go_sem]) rfl ⟨rfl,Hb1.out⟩
theorem zbf (args:Array Value) (W:World):(callFunc 140 args).run Tryz.prog W=.ok (.enter 140 args) W:=(enters_of (P:=Tryz.prog) Tryz.func140 (by kernel_rfl) rfl) args W
theorem zis {w0 w:World} {B:Nat}  {v:Value} (hL:EsL w B [] v) (hb0:Below B w0 w) (hB:B<=w.heap.size) (lv:Nat) (hlv:lv<=5) :
  Calls Tryz.prog 111 #[.agg #[.int .u8 4,.int .i64 0,.string { data:=#[] },v],.int .i64 lv] w (TxtE ([116,105,99,107]) w):=by
 obtain ⟨a,cap,rfl,hc1,hc2⟩:=hL.form;have hmf:=zmf Tryz.prog
 obtain ⟨W0,hW0,hb1,hO0⟩:∃ W0,W0=w.alloc (.cells #[.int .u8 4,.int .i64 0,.string { data:=#[] },.slice a 0 cap] 193)/\Below w.heap.size w W0/\OwnV W0 w.heap.size 193 [.int .u8 4,.int .i64 0,.string { data:=#[] },.slice a 0 cap]:=⟨_,rfl,(yR _ _).alloc (zr _) _,OwnV.new _ _ _⟩;have HBi:=zh (zbw 4 W0);have hB6:zar 4=6:=by decide
 rw [hB6,zbW hB6,show bstr []=({ data:=#[] }:ByteArray) from rfl] at HBi;have HW0:=zh hW0;have HO0:=zh hO0;have Hb1:=zh hb1;have HL:=zh (hL.low (hb1.mono hB));have Hb0:=zh (hb0.trans (hb1.mono hB));have x0:=hO0.cell (i:=0) rfl;clear hW0 hO0 hb1 hL hb0;go_enter Tryz.func111,Tryz.ntmps111
 go_upto_region 1 with (fail)
 rw [<- HW0.out];go_wp2_with fail
 go_at_call 141;refine HBi.out.mono ?_;rintro e1 w1 ⟨rfl,hb2⟩;have hs1:=hb2.size;have HO1:=zh (HO0.out.below hb2 (zr _));have HB1:=zh (Hb1.out.trans (hb2.mono Hb1.out.size));have hs0:=Hb1.out.size;have HL1:=zh (HL.out.low (hb2.mono (yT hB hs0)));have Hb0:=zh (Hb0.out.trans (hb2.mono (yT hB hs0)));have hlt1:=HO1.out.lt;clear hb2 x0 HO0 Hb1 HL HBi;have x0:=HO1.out.cell (i:=0) rfl;have HLv:=zh (za7 w1);go_wp2_with fail
 go_at_call 142;refine HLv.out.mono ?_;rintro e2 w2 ⟨rfl,-,hb3⟩;have hs2:=hb3.size;have HO2:=zh (HO1.out.below hb3 (zr _));have HB2:=zh (HB1.out.trans (hb3.mono HB1.out.size));have hs10:w.heap.size<=w1.heap.size:=HB1.out.size;have HL2:=zh (HL1.out.low (hb3.mono (yT hB hs10)));have Hb0:=zh (Hb0.out.trans (hb3.mono (yT hB hs10)));have hlt2:=HO2.out.lt;have hb23:B<=w2.heap.size:=by omega
 clear hb3 x0 HLv HO1 HL1 HB1;have x0:=HO2.out.cell (i:=0) rfl;go_wp2_with fail
 refine yE (v:=.string ({ data:=#[116,105,99,107] }:ByteArray)) (by simp [results,Tryz.results111,go_sem]) rfl ⟨rfl,HB2.out⟩
theorem zit {w0 w:World} {B:Nat}  {v:Value} (hL:EsL w B [] v) (hb0:Below B w0 w) (hB:B<=w.heap.size) (lv:Nat) (hlv:lv<=5) :
  Calls Tryz.prog 111 #[.agg #[.int .u8 5,.int .i64 0,.string { data:=#[] },v],.int .i64 lv] w (TxtE ([115,101,108,102]) w):=by
 obtain ⟨a,cap,rfl,hc1,hc2⟩:=hL.form;have hmf:=zmf Tryz.prog
 obtain ⟨W0,hW0,hb1,hO0⟩:∃ W0,W0=w.alloc (.cells #[.int .u8 5,.int .i64 0,.string { data:=#[] },.slice a 0 cap] 193)/\Below w.heap.size w W0/\OwnV W0 w.heap.size 193 [.int .u8 5,.int .i64 0,.string { data:=#[] },.slice a 0 cap]:=⟨_,rfl,(yR _ _).alloc (zr _) _,OwnV.new _ _ _⟩;have HBi:=zh (zbw 5 W0);have hB6:zar 5=6:=by decide
 rw [hB6,zbW hB6,show bstr []=({ data:=#[] }:ByteArray) from rfl] at HBi;have HW0:=zh hW0;have HO0:=zh hO0;have Hb1:=zh hb1;have HL:=zh (hL.low (hb1.mono hB));have Hb0:=zh (hb0.trans (hb1.mono hB));have x0:=hO0.cell (i:=0) rfl;clear hW0 hO0 hb1 hL hb0;go_enter Tryz.func111,Tryz.ntmps111
 go_upto_region 1 with (fail)
 rw [<- HW0.out];go_wp2_with fail
 go_at_call 141;refine HBi.out.mono ?_;rintro e1 w1 ⟨rfl,hb2⟩;have hs1:=hb2.size;have HO1:=zh (HO0.out.below hb2 (zr _));have HB1:=zh (Hb1.out.trans (hb2.mono Hb1.out.size));have hs0:=Hb1.out.size;have HL1:=zh (HL.out.low (hb2.mono (yT hB hs0)));have Hb0:=zh (Hb0.out.trans (hb2.mono (yT hB hs0)));have hlt1:=HO1.out.lt;clear hb2 x0 HO0 Hb1 HL HBi;have x0:=HO1.out.cell (i:=0) rfl;have HLv:=zh (za7 w1);go_wp2_with fail
 go_at_call 142;refine HLv.out.mono ?_;rintro e2 w2 ⟨rfl,-,hb3⟩;have hs2:=hb3.size;have HO2:=zh (HO1.out.below hb3 (zr _));have HB2:=zh (HB1.out.trans (hb3.mono HB1.out.size));have hs10:w.heap.size<=w1.heap.size:=HB1.out.size;have HL2:=zh (HL1.out.low (hb3.mono (yT hB hs10)));have Hb0:=zh (Hb0.out.trans (hb3.mono (yT hB hs10)));have hlt2:=HO2.out.lt;have hb23:B<=w2.heap.size:=by omega
 clear hb3 x0 HLv HO1 HL1 HB1;have x0:=HO2.out.cell (i:=0) rfl;go_wp2_with fail
 refine yE (v:=.string ({ data:=#[115,101,108,102] }:ByteArray)) (by simp [results,Tryz.results111,go_sem]) rfl ⟨rfl,HB2.out⟩
theorem zi9 {w0 w:World} {B:Nat} {name:List UInt8} {v:Value} (hL:EsL w B [] v) (hb0:Below B w0 w) (hB:B<=w.heap.size) (lv:Nat) (hlv:lv<=5) :
  Calls Tryz.prog 111 #[.agg #[.int .u8 2,.int .i64 0,.string (bstr name),v],.int .i64 lv] w (TxtE (name) w):=by
 obtain ⟨a,cap,rfl,hc1,hc2⟩:=hL.form;have hmf:=zmf Tryz.prog
 obtain ⟨W0,hW0,hb1,hO0⟩:∃ W0,W0=w.alloc (.cells #[.int .u8 2,.int .i64 0,.string (bstr name),.slice a 0 cap] 193)/\Below w.heap.size w W0/\OwnV W0 w.heap.size 193 [.int .u8 2,.int .i64 0,.string (bstr name),.slice a 0 cap]:=⟨_,rfl,(yR _ _).alloc (zr _) _,OwnV.new _ _ _⟩;have HBi:=zh (zbw 2 W0);have hB6:zar 2=6:=by decide
 rw [hB6,zbW hB6,show bstr []=({ data:=#[] }:ByteArray) from rfl] at HBi;have HW0:=zh hW0;have HO0:=zh hO0;have Hb1:=zh hb1;have HL:=zh (hL.low (hb1.mono hB));have Hb0:=zh (hb0.trans (hb1.mono hB));have x0:=hO0.cell (i:=0) rfl;clear hW0 hO0 hb1 hL hb0;go_enter Tryz.func111,Tryz.ntmps111
 go_upto_region 1 with (fail)
 rw [<- HW0.out];go_wp2_with fail
 go_at_call 141;refine HBi.out.mono ?_;rintro e1 w1 ⟨rfl,hb2⟩;have hs1:=hb2.size;have HO1:=zh (HO0.out.below hb2 (zr _));have HB1:=zh (Hb1.out.trans (hb2.mono Hb1.out.size));have hs0:=Hb1.out.size;have HL1:=zh (HL.out.low (hb2.mono (yT hB hs0)));have Hb0:=zh (Hb0.out.trans (hb2.mono (yT hB hs0)));have hlt1:=HO1.out.lt;clear hb2 x0 HO0 Hb1 HL HBi;have x0:=HO1.out.cell (i:=0) rfl;have HLv:=zh (za7 w1);go_wp2_with fail
 go_at_call 142;refine HLv.out.mono ?_;rintro e2 w2 ⟨rfl,-,hb3⟩;have hs2:=hb3.size;have HO2:=zh (HO1.out.below hb3 (zr _));have HB2:=zh (HB1.out.trans (hb3.mono HB1.out.size));have hs10:w.heap.size<=w1.heap.size:=HB1.out.size;have HL2:=zh (HL1.out.low (hb3.mono (yT hB hs10)));have Hb0:=zh (Hb0.out.trans (hb3.mono (yT hB hs10)));have hlt2:=HO2.out.lt;have hb23:B<=w2.heap.size:=by omega
 clear hb3 x0 HLv HO1 HL1 HB1;have x0:=HO2.out.cell (i:=0) rfl;have x2:=HO2.out.cell (i:=2) rfl;go_wp2_with fail
 refine yE (v:=.string (bstr name)) (by simp [results,Tryz.results111,go_sem]) rfl ⟨rfl,HB2.out⟩
theorem zja {w0 w:World} {B:Nat} {n:Int} (h0:0<=n) (h1:n<=9223372036854775807) (hG:Glob w) {v:Value} (hL:EsL w B [] v) (hb0:Below B w0 w) (hB:B<=w.heap.size) (lv:Nat) (hlv:lv<=5) :
  Calls Tryz.prog 111 #[.agg #[.int .u8 1,.int .i64 n,.string { data:=#[] },v],.int .i64 lv] w (TxtE (Lib.decDigits n.toNat) w):=by
 obtain ⟨a,cap,rfl,hc1,hc2⟩:=hL.form;have hmf:=zmf Tryz.prog
 obtain ⟨W0,hW0,hb1,hO0⟩:∃ W0,W0=w.alloc (.cells #[.int .u8 1,.int .i64 n,.string { data:=#[] },.slice a 0 cap] 193)/\Below w.heap.size w W0/\OwnV W0 w.heap.size 193 [.int .u8 1,.int .i64 n,.string { data:=#[] },.slice a 0 cap]:=⟨_,rfl,(yR _ _).alloc (zr _) _,OwnV.new _ _ _⟩;have HBi:=zh (zbw 1 W0);have hB6:zar 1=6:=by decide
 rw [hB6,zbW hB6,show bstr []=({ data:=#[] }:ByteArray) from rfl] at HBi;have HW0:=zh hW0;have HO0:=zh hO0;have Hb1:=zh hb1;have HL:=zh (hL.low (hb1.mono hB));have Hb0:=zh (hb0.trans (hb1.mono hB));have x0:=hO0.cell (i:=0) rfl;clear hW0 hO0 hb1 hL hb0;go_enter Tryz.func111,Tryz.ntmps111
 go_upto_region 1 with (fail)
 rw [<- HW0.out];go_wp2_with fail
 go_at_call 141;refine HBi.out.mono ?_;rintro e1 w1 ⟨rfl,hb2⟩;have hs1:=hb2.size;have HO1:=zh (HO0.out.below hb2 (zr _));have HB1:=zh (Hb1.out.trans (hb2.mono Hb1.out.size));have hs0:=Hb1.out.size;have HL1:=zh (HL.out.low (hb2.mono (yT hB hs0)));have Hb0:=zh (Hb0.out.trans (hb2.mono (yT hB hs0)));have hlt1:=HO1.out.lt;clear hb2 x0 HO0 Hb1 HL HBi;have x0:=HO1.out.cell (i:=0) rfl;have HLv:=zh (za7 w1);go_wp2_with fail
 go_at_call 142;refine HLv.out.mono ?_;rintro e2 w2 ⟨rfl,-,hb3⟩;have hs2:=hb3.size;have HO2:=zh (HO1.out.below hb3 (zr _));have HB2:=zh (HB1.out.trans (hb3.mono HB1.out.size));have hs10:w.heap.size<=w1.heap.size:=HB1.out.size;have HL2:=zh (HL1.out.low (hb3.mono (yT hB hs10)));have Hb0:=zh (Hb0.out.trans (hb3.mono (yT hB hs10)));have hlt2:=HO2.out.lt;have hb23:B<=w2.heap.size:=by omega
 clear hb3 x0 HLv HO1 HL1 HB1;have hG2:=hG.below HB2.out hG.size;have HI:=zh (Tryz.strconv_Itoa n (by omega) h1 w2 hG2.pow);rw [show Lib.itoa n=Lib.decDigits n.toNat from by unfold Lib.itoa;rw [yN (by omega)]] at HI;obtain ⟨x0,x1⟩:=yc2 HO2.out;go_wp2_with fail
 go_at_call 143;refine HI.out.mono ?_;rintro e3 w3 ⟨rfl,k,os,hw⟩;have HB3:Hid (Below w.heap.size w w3):=zh (by rw [hw];exact HB2.out.trans (Lib.below_grow _ _ HB2.out.size _ _));clear hw HI x0 x1;go_wp2_with fail
 refine yE (v:=.string ({ data:=(Lib.decDigits n.toNat).toArray }:ByteArray)) (by simp [results,Tryz.results111,go_sem]) rfl ⟨rfl,HB3.out⟩
theorem zjb {w0 w:World} {B:Nat} {x:Ex} (h0:WrC w0 B x) (hz0:∀ k,(zak x k).length<=1000000000000000) {v:Value} (hL:EsL w B [x] v) (hb0:Below B w0 w) (hB:B<=w.heap.size) (lv:Nat) (hlv:lv<=5) :
  Calls Tryz.prog 111 #[.agg #[.int .u8 7,.int .i64 0,.string { data:=#[] },v],.int .i64 lv] w (TxtE ([45]++zak x 6) w):=by
 obtain ⟨a,cap,rfl,hc1,hc2⟩:=hL.form;have hmf:=zmf Tryz.prog
 obtain ⟨W0,hW0,hb1,hO0⟩:∃ W0,W0=w.alloc (.cells #[.int .u8 7,.int .i64 0,.string { data:=#[] },.slice a 1 cap] 193)/\Below w.heap.size w W0/\OwnV W0 w.heap.size 193 [.int .u8 7,.int .i64 0,.string { data:=#[] },.slice a 1 cap]:=⟨_,rfl,(yR _ _).alloc (zr _) _,OwnV.new _ _ _⟩;have HBi:=zh (zbw 7 W0);have hB6:zar 7=6:=by decide
 rw [hB6,zbW hB6,show bstr []=({ data:=#[] }:ByteArray) from rfl] at HBi;obtain ⟨TX,hTX⟩:∃ T,([45]++zak x 6)=T:=⟨_,rfl⟩;rw [hTX];have HTX:=zh hTX;clear hTX;have HW0:=zh hW0;have HO0:=zh hO0;have Hb1:=zh hb1;have HL:=zh (hL.low (hb1.mono hB));have Hb0:=zh (hb0.trans (hb1.mono hB));have x0:=hO0.cell (i:=0) rfl;clear hW0 hO0 hb1 hL hb0;go_enter Tryz.func111,Tryz.ntmps111
 go_upto_region 1 with (fail)
 rw [<- HW0.out];go_wp2_with fail
 go_at_call 141;refine HBi.out.mono ?_;rintro e1 w1 ⟨rfl,hb2⟩;have hs1:=hb2.size;have HO1:=zh (HO0.out.below hb2 (zr _));have HB1:=zh (Hb1.out.trans (hb2.mono Hb1.out.size));have hs0:=Hb1.out.size;have HL1:=zh (HL.out.low (hb2.mono (yT hB hs0)));have Hb0:=zh (Hb0.out.trans (hb2.mono (yT hB hs0)));have hlt1:=HO1.out.lt;clear hb2 x0 HO0 Hb1 HL HBi;have x0:=HO1.out.cell (i:=0) rfl;have HLv:=zh (za7 w1);go_wp2_with fail
 go_at_call 142;refine HLv.out.mono ?_;rintro e2 w2 ⟨rfl,-,hb3⟩;have hs2:=hb3.size;have HO2:=zh (HO1.out.below hb3 (zr _));have HB2:=zh (HB1.out.trans (hb3.mono HB1.out.size));have hs10:w.heap.size<=w1.heap.size:=HB1.out.size;have HL2:=zh (HL1.out.low (hb3.mono (yT hB hs10)));have Hb0:=zh (Hb0.out.trans (hb3.mono (yT hB hs10)));have hlt2:=HO2.out.lt;have hb23:B<=w2.heap.size:=by omega
 clear hb3 x0 HLv HO1 HL1 HB1;have HA0:Hid (∀ W,Below w2.heap.size w2 W->Calls Tryz.prog 140 #[.int .i64 0,.int .i64 5,.pointer (some ⟨w.heap.size,0,none⟩)] W (TxtE (zak x 6) W)):=zh (fun W hb=>za1 (w0:=w0) (i:=0) (lv:=5) (y:=x) (HO2.out.below hb (zr _)) (HL2.out.low (hb.mono (by omega))) (Hb0.out.trans (hb.mono (by omega))) (by have:=hb.size;omega) (by omega) rfl h0);obtain ⟨T0,hT0⟩:∃ T,zak x 6=T:=⟨_,rfl⟩;obtain ⟨S0,hS0⟩:∃ S,bstr T0=S:=⟨_,rfl⟩;have hln0:S0.size<=1000000000000000:=by rw [<- hS0,zaC,<- hT0];exact hz0 _
 rw [hT0] at HA0;unfold TxtE at HA0;simp only [hS0] at HA0;have HS0:=zh (show S0=bstr (zak x 6) from by rw [hT0,hS0]);clear hT0 hS0;have hen:=zbf;have x0:=HO2.out.cell (i:=0) rfl;go_wp2_with fail
 refine (HA0.out _ (yR _ _)).mono ?_;rintro e3 w3 ⟨rfl,hb3⟩;have Hw3:=zh hb3;clear hb3 HA0;clear x0;go_wp2_with fail
 refine yE (v:=.string (({ data:=#[45] }:ByteArray)++S0)) (by simp [results,Tryz.results111,go_sem]) rfl ⟨?_,HB2.out.trans (Hw3.out.mono HB2.out.size)⟩;rw [<- HTX.out,HS0.out];simp [zax,zbV]
theorem zjc {w0 w:World} {B:Nat} {x:Ex} (h0:WrC w0 B x) (hz0:∀ k,(zak x k).length<=1000000000000000) {v:Value} (hL:EsL w B [x] v) (hb0:Below B w0 w) (hB:B<=w.heap.size) (lv:Nat) (hlv:lv<=5) :
  Calls Tryz.prog 111 #[.agg #[.int .u8 8,.int .i64 0,.string { data:=#[] },v],.int .i64 lv] w (TxtE ([33]++zak x 6) w):=by
 obtain ⟨a,cap,rfl,hc1,hc2⟩:=hL.form;have hmf:=zmf Tryz.prog
 obtain ⟨W0,hW0,hb1,hO0⟩:∃ W0,W0=w.alloc (.cells #[.int .u8 8,.int .i64 0,.string { data:=#[] },.slice a 1 cap] 193)/\Below w.heap.size w W0/\OwnV W0 w.heap.size 193 [.int .u8 8,.int .i64 0,.string { data:=#[] },.slice a 1 cap]:=⟨_,rfl,(yR _ _).alloc (zr _) _,OwnV.new _ _ _⟩;have HBi:=zh (zbw 8 W0);have hB6:zar 8=6:=by decide
 rw [hB6,zbW hB6,show bstr []=({ data:=#[] }:ByteArray) from rfl] at HBi;obtain ⟨TX,hTX⟩:∃ T,([33]++zak x 6)=T:=⟨_,rfl⟩;rw [hTX];have HTX:=zh hTX;clear hTX;have HW0:=zh hW0;have HO0:=zh hO0;have Hb1:=zh hb1;have HL:=zh (hL.low (hb1.mono hB));have Hb0:=zh (hb0.trans (hb1.mono hB));have x0:=hO0.cell (i:=0) rfl;clear hW0 hO0 hb1 hL hb0;go_enter Tryz.func111,Tryz.ntmps111
 go_upto_region 1 with (fail)
 rw [<- HW0.out];go_wp2_with fail
 go_at_call 141;refine HBi.out.mono ?_;rintro e1 w1 ⟨rfl,hb2⟩;have hs1:=hb2.size;have HO1:=zh (HO0.out.below hb2 (zr _));have HB1:=zh (Hb1.out.trans (hb2.mono Hb1.out.size));have hs0:=Hb1.out.size;have HL1:=zh (HL.out.low (hb2.mono (yT hB hs0)));have Hb0:=zh (Hb0.out.trans (hb2.mono (yT hB hs0)));have hlt1:=HO1.out.lt;clear hb2 x0 HO0 Hb1 HL HBi;have x0:=HO1.out.cell (i:=0) rfl;have HLv:=zh (za7 w1);go_wp2_with fail
 go_at_call 142;refine HLv.out.mono ?_;rintro e2 w2 ⟨rfl,-,hb3⟩;have hs2:=hb3.size;have HO2:=zh (HO1.out.below hb3 (zr _));have HB2:=zh (HB1.out.trans (hb3.mono HB1.out.size));have hs10:w.heap.size<=w1.heap.size:=HB1.out.size;have HL2:=zh (HL1.out.low (hb3.mono (yT hB hs10)));have Hb0:=zh (Hb0.out.trans (hb3.mono (yT hB hs10)));have hlt2:=HO2.out.lt;have hb23:B<=w2.heap.size:=by omega
 clear hb3 x0 HLv HO1 HL1 HB1;have HA0:Hid (∀ W,Below w2.heap.size w2 W->Calls Tryz.prog 140 #[.int .i64 0,.int .i64 5,.pointer (some ⟨w.heap.size,0,none⟩)] W (TxtE (zak x 6) W)):=zh (fun W hb=>za1 (w0:=w0) (i:=0) (lv:=5) (y:=x) (HO2.out.below hb (zr _)) (HL2.out.low (hb.mono (by omega))) (Hb0.out.trans (hb.mono (by omega))) (by have:=hb.size;omega) (by omega) rfl h0);obtain ⟨T0,hT0⟩:∃ T,zak x 6=T:=⟨_,rfl⟩;obtain ⟨S0,hS0⟩:∃ S,bstr T0=S:=⟨_,rfl⟩;have hln0:S0.size<=1000000000000000:=by rw [<- hS0,zaC,<- hT0];exact hz0 _
 rw [hT0] at HA0;unfold TxtE at HA0;simp only [hS0] at HA0;have HS0:=zh (show S0=bstr (zak x 6) from by rw [hT0,hS0]);clear hT0 hS0;have hen:=zbf;have x0:=HO2.out.cell (i:=0) rfl;go_wp2_with fail
 refine (HA0.out _ (yR _ _)).mono ?_;rintro e3 w3 ⟨rfl,hb3⟩;have Hw3:=zh hb3;clear hb3 HA0;clear x0;go_wp2_with fail
 refine yE (v:=.string (({ data:=#[33] }:ByteArray)++S0)) (by simp [results,Tryz.results111,go_sem]) rfl ⟨?_,HB2.out.trans (Hw3.out.mono HB2.out.size)⟩;rw [<- HTX.out,HS0.out];simp [zax,zbV]
theorem ziu {w0 w:World} {B:Nat} {x:Ex} (h0:WrC w0 B x) (hz0:∀ k,(zak x k).length<=1000000000000000) {v:Value} (hL:EsL w B [x] v) (hb0:Below B w0 w) (hB:B<=w.heap.size) (lv:Nat) (hlv:lv<=5) :
  Calls Tryz.prog 111 #[.agg #[.int .u8 6,.int .i64 0,.string { data:=#[] },v],.int .i64 lv] w (TxtE ([114,97,110,100,40]++zak x 1++[41]) w):=by
 obtain ⟨a,cap,rfl,hc1,hc2⟩:=hL.form;have hmf:=zmf Tryz.prog
 obtain ⟨W0,hW0,hb1,hO0⟩:∃ W0,W0=w.alloc (.cells #[.int .u8 6,.int .i64 0,.string { data:=#[] },.slice a 1 cap] 193)/\Below w.heap.size w W0/\OwnV W0 w.heap.size 193 [.int .u8 6,.int .i64 0,.string { data:=#[] },.slice a 1 cap]:=⟨_,rfl,(yR _ _).alloc (zr _) _,OwnV.new _ _ _⟩;have HBi:=zh (zbw 6 W0);have hB6:zar 6=6:=by decide
 rw [hB6,zbW hB6,show bstr []=({ data:=#[] }:ByteArray) from rfl] at HBi;obtain ⟨TX,hTX⟩:∃ T,([114,97,110,100,40]++zak x 1++[41])=T:=⟨_,rfl⟩;rw [hTX];have HTX:=zh hTX;clear hTX;have HW0:=zh hW0;have HO0:=zh hO0;have Hb1:=zh hb1;have HL:=zh (hL.low (hb1.mono hB));have Hb0:=zh (hb0.trans (hb1.mono hB));have x0:=hO0.cell (i:=0) rfl;clear hW0 hO0 hb1 hL hb0;go_enter Tryz.func111,Tryz.ntmps111
 go_upto_region 1 with (fail)
 rw [<- HW0.out];go_wp2_with fail
 go_at_call 141;refine HBi.out.mono ?_;rintro e1 w1 ⟨rfl,hb2⟩;have hs1:=hb2.size;have HO1:=zh (HO0.out.below hb2 (zr _));have HB1:=zh (Hb1.out.trans (hb2.mono Hb1.out.size));have hs0:=Hb1.out.size;have HL1:=zh (HL.out.low (hb2.mono (yT hB hs0)));have Hb0:=zh (Hb0.out.trans (hb2.mono (yT hB hs0)));have hlt1:=HO1.out.lt;clear hb2 x0 HO0 Hb1 HL HBi;have x0:=HO1.out.cell (i:=0) rfl;have HLv:=zh (za7 w1);go_wp2_with fail
 go_at_call 142;refine HLv.out.mono ?_;rintro e2 w2 ⟨rfl,-,hb3⟩;have hs2:=hb3.size;have HO2:=zh (HO1.out.below hb3 (zr _));have HB2:=zh (HB1.out.trans (hb3.mono HB1.out.size));have hs10:w.heap.size<=w1.heap.size:=HB1.out.size;have HL2:=zh (HL1.out.low (hb3.mono (yT hB hs10)));have Hb0:=zh (Hb0.out.trans (hb3.mono (yT hB hs10)));have hlt2:=HO2.out.lt;have hb23:B<=w2.heap.size:=by omega
 clear hb3 x0 HLv HO1 HL1 HB1;have HA0:Hid (∀ W,Below w2.heap.size w2 W->Calls Tryz.prog 140 #[.int .i64 0,.int .i64 0,.pointer (some ⟨w.heap.size,0,none⟩)] W (TxtE (zak x 1) W)):=zh (fun W hb=>za1 (w0:=w0) (i:=0) (lv:=0) (y:=x) (HO2.out.below hb (zr _)) (HL2.out.low (hb.mono (by omega))) (Hb0.out.trans (hb.mono (by omega))) (by have:=hb.size;omega) (by omega) rfl h0);obtain ⟨T0,hT0⟩:∃ T,zak x 1=T:=⟨_,rfl⟩;obtain ⟨S0,hS0⟩:∃ S,bstr T0=S:=⟨_,rfl⟩;have hln0:S0.size<=1000000000000000:=by rw [<- hS0,zaC,<- hT0];exact hz0 _
 rw [hT0] at HA0;unfold TxtE at HA0;simp only [hS0] at HA0;have HS0:=zh (show S0=bstr (zak x 1) from by rw [hT0,hS0]);clear hT0 hS0;have hen:=zbf;have x0:=HO2.out.cell (i:=0) rfl;go_wp2_with fail
 refine (HA0.out _ (yR _ _)).mono ?_;rintro e3 w3 ⟨rfl,hb3⟩;have Hw3:=zh hb3;clear hb3 HA0;clear x0;go_wp2_with fail
 refine yE (v:=.string (({ data:=#[114,97,110,100,40] }:ByteArray)++S0++{ data:=#[41] })) (by simp [results,Tryz.results111,go_sem]) rfl ⟨?_,HB2.out.trans (Hw3.out.mono HB2.out.size)⟩;rw [<- HTX.out,HS0.out];simp [zax,zbV]
theorem zjd {w0 w:World} {B:Nat} {x:Ex} (h0:WrC w0 B x) (hz0:∀ k,(zak x k).length<=1000000000000000) {v:Value} (hL:EsL w B [x] v) (hb0:Below B w0 w) (hB:B<=w.heap.size) (lv:Nat) (hlv:lv<=5) :
  Calls Tryz.prog 111 #[.agg #[.int .u8 9,.int .i64 0,.string { data:=#[] },v],.int .i64 lv] w (TxtE ([97,98,115,40]++zak x 1++[41]) w):=by
 obtain ⟨a,cap,rfl,hc1,hc2⟩:=hL.form;have hmf:=zmf Tryz.prog
 obtain ⟨W0,hW0,hb1,hO0⟩:∃ W0,W0=w.alloc (.cells #[.int .u8 9,.int .i64 0,.string { data:=#[] },.slice a 1 cap] 193)/\Below w.heap.size w W0/\OwnV W0 w.heap.size 193 [.int .u8 9,.int .i64 0,.string { data:=#[] },.slice a 1 cap]:=⟨_,rfl,(yR _ _).alloc (zr _) _,OwnV.new _ _ _⟩;have HBi:=zh (zbw 9 W0);have hB6:zar 9=6:=by decide
 rw [hB6,zbW hB6,show bstr []=({ data:=#[] }:ByteArray) from rfl] at HBi;obtain ⟨TX,hTX⟩:∃ T,([97,98,115,40]++zak x 1++[41])=T:=⟨_,rfl⟩;rw [hTX];have HTX:=zh hTX;clear hTX;have HW0:=zh hW0;have HO0:=zh hO0;have Hb1:=zh hb1;have HL:=zh (hL.low (hb1.mono hB));have Hb0:=zh (hb0.trans (hb1.mono hB));have x0:=hO0.cell (i:=0) rfl;clear hW0 hO0 hb1 hL hb0;go_enter Tryz.func111,Tryz.ntmps111
 go_upto_region 1 with (fail)
 rw [<- HW0.out];go_wp2_with fail
 go_at_call 141;refine HBi.out.mono ?_;rintro e1 w1 ⟨rfl,hb2⟩;have hs1:=hb2.size;have HO1:=zh (HO0.out.below hb2 (zr _));have HB1:=zh (Hb1.out.trans (hb2.mono Hb1.out.size));have hs0:=Hb1.out.size;have HL1:=zh (HL.out.low (hb2.mono (yT hB hs0)));have Hb0:=zh (Hb0.out.trans (hb2.mono (yT hB hs0)));have hlt1:=HO1.out.lt;clear hb2 x0 HO0 Hb1 HL HBi;have x0:=HO1.out.cell (i:=0) rfl;have HLv:=zh (za7 w1);go_wp2_with fail
 go_at_call 142;refine HLv.out.mono ?_;rintro e2 w2 ⟨rfl,-,hb3⟩;have hs2:=hb3.size;have HO2:=zh (HO1.out.below hb3 (zr _));have HB2:=zh (HB1.out.trans (hb3.mono HB1.out.size));have hs10:w.heap.size<=w1.heap.size:=HB1.out.size;have HL2:=zh (HL1.out.low (hb3.mono (yT hB hs10)));have Hb0:=zh (Hb0.out.trans (hb3.mono (yT hB hs10)));have hlt2:=HO2.out.lt;have hb23:B<=w2.heap.size:=by omega
 clear hb3 x0 HLv HO1 HL1 HB1;have HA0:Hid (∀ W,Below w2.heap.size w2 W->Calls Tryz.prog 140 #[.int .i64 0,.int .i64 0,.pointer (some ⟨w.heap.size,0,none⟩)] W (TxtE (zak x 1) W)):=zh (fun W hb=>za1 (w0:=w0) (i:=0) (lv:=0) (y:=x) (HO2.out.below hb (zr _)) (HL2.out.low (hb.mono (by omega))) (Hb0.out.trans (hb.mono (by omega))) (by have:=hb.size;omega) (by omega) rfl h0);obtain ⟨T0,hT0⟩:∃ T,zak x 1=T:=⟨_,rfl⟩;obtain ⟨S0,hS0⟩:∃ S,bstr T0=S:=⟨_,rfl⟩;have hln0:S0.size<=1000000000000000:=by rw [<- hS0,zaC,<- hT0];exact hz0 _
 rw [hT0] at HA0;unfold TxtE at HA0;simp only [hS0] at HA0;have HS0:=zh (show S0=bstr (zak x 1) from by rw [hT0,hS0]);clear hT0 hS0;have hen:=zbf;have x0:=HO2.out.cell (i:=0) rfl;go_wp2_with fail
 refine (HA0.out _ (yR _ _)).mono ?_;rintro e3 w3 ⟨rfl,hb3⟩;have Hw3:=zh hb3;clear hb3 HA0;clear x0;go_wp2_with fail
 refine yE (v:=.string (({ data:=#[97,98,115,40] }:ByteArray)++S0++{ data:=#[41] })) (by simp [results,Tryz.results111,go_sem]) rfl ⟨?_,HB2.out.trans (Hw3.out.mono HB2.out.size)⟩;rw [<- HTX.out,HS0.out];simp [zax,zbV]
theorem zje {w0 w:World} {B:Nat} {x y:Ex} (h0:WrC w0 B x) (h1:WrC w0 B y) (hz0:∀ k,(zak x k).length<=1000000000000000) (hz1:∀ k,(zak y k).length<=1000000000000000) {v:Value} (hL:EsL w B [x,y] v) (hb0:Below B w0 w) (hB:B<=w.heap.size) (lv:Nat) (hlv:lv<=5) :
  Calls Tryz.prog 111 #[.agg #[.int .u8 23,.int .i64 0,.string { data:=#[] },v],.int .i64 lv] w (TxtE ([109,105,110,40]++zak x 1++[44,32]++zak y 1++[41]) w):=by
 obtain ⟨a,cap,rfl,hc1,hc2⟩:=hL.form;have hmf:=zmf Tryz.prog
 obtain ⟨W0,hW0,hb1,hO0⟩:∃ W0,W0=w.alloc (.cells #[.int .u8 23,.int .i64 0,.string { data:=#[] },.slice a 2 cap] 193)/\Below w.heap.size w W0/\OwnV W0 w.heap.size 193 [.int .u8 23,.int .i64 0,.string { data:=#[] },.slice a 2 cap]:=⟨_,rfl,(yR _ _).alloc (zr _) _,OwnV.new _ _ _⟩;have HBi:=zh (zbw 23 W0);have hB6:zar 23=6:=by decide
 rw [hB6,zbW hB6,show bstr []=({ data:=#[] }:ByteArray) from rfl] at HBi;obtain ⟨TX,hTX⟩:∃ T,([109,105,110,40]++zak x 1++[44,32]++zak y 1++[41])=T:=⟨_,rfl⟩;rw [hTX];have HTX:=zh hTX;clear hTX;have HW0:=zh hW0;have HO0:=zh hO0;have Hb1:=zh hb1;have HL:=zh (hL.low (hb1.mono hB));have Hb0:=zh (hb0.trans (hb1.mono hB));have x0:=hO0.cell (i:=0) rfl;clear hW0 hO0 hb1 hL hb0;go_enter Tryz.func111,Tryz.ntmps111
 go_upto_region 1 with (fail)
 rw [<- HW0.out];go_wp2_with fail
 go_at_call 141;refine HBi.out.mono ?_;rintro e1 w1 ⟨rfl,hb2⟩;have hs1:=hb2.size;have HO1:=zh (HO0.out.below hb2 (zr _));have HB1:=zh (Hb1.out.trans (hb2.mono Hb1.out.size));have hs0:=Hb1.out.size;have HL1:=zh (HL.out.low (hb2.mono (yT hB hs0)));have Hb0:=zh (Hb0.out.trans (hb2.mono (yT hB hs0)));have hlt1:=HO1.out.lt;clear hb2 x0 HO0 Hb1 HL HBi;have x0:=HO1.out.cell (i:=0) rfl;have HLv:=zh (za7 w1);go_wp2_with fail
 go_at_call 142;refine HLv.out.mono ?_;rintro e2 w2 ⟨rfl,-,hb3⟩;have hs2:=hb3.size;have HO2:=zh (HO1.out.below hb3 (zr _));have HB2:=zh (HB1.out.trans (hb3.mono HB1.out.size));have hs10:w.heap.size<=w1.heap.size:=HB1.out.size;have HL2:=zh (HL1.out.low (hb3.mono (yT hB hs10)));have Hb0:=zh (Hb0.out.trans (hb3.mono (yT hB hs10)));have hlt2:=HO2.out.lt;have hb23:B<=w2.heap.size:=by omega
 clear hb3 x0 HLv HO1 HL1 HB1;have HA0:Hid (∀ W,Below w2.heap.size w2 W->Calls Tryz.prog 140 #[.int .i64 0,.int .i64 0,.pointer (some ⟨w.heap.size,0,none⟩)] W (TxtE (zak x 1) W)):=zh (fun W hb=>za1 (w0:=w0) (i:=0) (lv:=0) (y:=x) (HO2.out.below hb (zr _)) (HL2.out.low (hb.mono (by omega))) (Hb0.out.trans (hb.mono (by omega))) (by have:=hb.size;omega) (by omega) rfl h0);obtain ⟨T0,hT0⟩:∃ T,zak x 1=T:=⟨_,rfl⟩;obtain ⟨S0,hS0⟩:∃ S,bstr T0=S:=⟨_,rfl⟩;have hln0:S0.size<=1000000000000000:=by rw [<- hS0,zaC,<- hT0];exact hz0 _
 rw [hT0] at HA0;unfold TxtE at HA0;simp only [hS0] at HA0;have HS0:=zh (show S0=bstr (zak x 1) from by rw [hT0,hS0]);clear hT0 hS0;have HA1:Hid (∀ W,Below w2.heap.size w2 W->Calls Tryz.prog 140 #[.int .i64 1,.int .i64 0,.pointer (some ⟨w.heap.size,0,none⟩)] W (TxtE (zak y 1) W)):=zh (fun W hb=>za1 (w0:=w0) (i:=1) (lv:=0) (y:=y) (HO2.out.below hb (zr _)) (HL2.out.low (hb.mono (by omega))) (Hb0.out.trans (hb.mono (by omega))) (by have:=hb.size;omega) (by omega) rfl h1);obtain ⟨T1,hT1⟩:∃ T,zak y 1=T:=⟨_,rfl⟩;obtain ⟨S1,hS1⟩:∃ S,bstr T1=S:=⟨_,rfl⟩;have hln1:S1.size<=1000000000000000:=by rw [<- hS1,zaC,<- hT1];exact hz1 _
 rw [hT1] at HA1;unfold TxtE at HA1;simp only [hS1] at HA1;have HS1:=zh (show S1=bstr (zak y 1) from by rw [hT1,hS1]);clear hT1 hS1;have hen:=zbf;have x0:=HO2.out.cell (i:=0) rfl;go_wp2_with fail
 refine (HA0.out _ (yR _ _)).mono ?_;rintro e3 w3 ⟨rfl,hb3⟩;have Hw3:=zh hb3;clear hb3 HA0;clear x0;go_wp2_with fail
 refine (HA1.out _ Hw3.out).mono ?_;rintro e4 w4 ⟨rfl,hb3⟩;have Hw4:=zh (Hw3.out.trans (hb3.mono Hw3.out.size));clear hb3 HA1;go_wp2_with fail
 refine yE (v:=.string ((({ data:=#[109,105,110,40] }:ByteArray)++S0++{ data:=#[44,32] })++S1++{ data:=#[41] })) (by simp [results,Tryz.results111,go_sem]) rfl ⟨?_,HB2.out.trans (Hw4.out.mono HB2.out.size)⟩;rw [<- HTX.out,HS0.out,HS1.out];simp [zax,zbV]
theorem zjf {w0 w:World} {B:Nat} {x y:Ex} (h0:WrC w0 B x) (h1:WrC w0 B y) (hz0:∀ k,(zak x k).length<=1000000000000000) (hz1:∀ k,(zak y k).length<=1000000000000000) {v:Value} (hL:EsL w B [x,y] v) (hb0:Below B w0 w) (hB:B<=w.heap.size) (lv:Nat) (hlv:lv<=5) :
  Calls Tryz.prog 111 #[.agg #[.int .u8 24,.int .i64 0,.string { data:=#[] },v],.int .i64 lv] w (TxtE ([109,97,120,40]++zak x 1++[44,32]++zak y 1++[41]) w):=by
 obtain ⟨a,cap,rfl,hc1,hc2⟩:=hL.form;have hmf:=zmf Tryz.prog
 obtain ⟨W0,hW0,hb1,hO0⟩:∃ W0,W0=w.alloc (.cells #[.int .u8 24,.int .i64 0,.string { data:=#[] },.slice a 2 cap] 193)/\Below w.heap.size w W0/\OwnV W0 w.heap.size 193 [.int .u8 24,.int .i64 0,.string { data:=#[] },.slice a 2 cap]:=⟨_,rfl,(yR _ _).alloc (zr _) _,OwnV.new _ _ _⟩;have HBi:=zh (zbw 24 W0);have hB6:zar 24=6:=by decide
 rw [hB6,zbW hB6,show bstr []=({ data:=#[] }:ByteArray) from rfl] at HBi;obtain ⟨TX,hTX⟩:∃ T,([109,97,120,40]++zak x 1++[44,32]++zak y 1++[41])=T:=⟨_,rfl⟩;rw [hTX];have HTX:=zh hTX;clear hTX;have HW0:=zh hW0;have HO0:=zh hO0;have Hb1:=zh hb1;have HL:=zh (hL.low (hb1.mono hB));have Hb0:=zh (hb0.trans (hb1.mono hB));have x0:=hO0.cell (i:=0) rfl;clear hW0 hO0 hb1 hL hb0;go_enter Tryz.func111,Tryz.ntmps111
 go_upto_region 1 with (fail)
 rw [<- HW0.out];go_wp2_with fail
 go_at_call 141;refine HBi.out.mono ?_;rintro e1 w1 ⟨rfl,hb2⟩;have hs1:=hb2.size;have HO1:=zh (HO0.out.below hb2 (zr _));have HB1:=zh (Hb1.out.trans (hb2.mono Hb1.out.size));have hs0:=Hb1.out.size;have HL1:=zh (HL.out.low (hb2.mono (yT hB hs0)));have Hb0:=zh (Hb0.out.trans (hb2.mono (yT hB hs0)));have hlt1:=HO1.out.lt;clear hb2 x0 HO0 Hb1 HL HBi;have x0:=HO1.out.cell (i:=0) rfl;have HLv:=zh (za7 w1);go_wp2_with fail
 go_at_call 142;refine HLv.out.mono ?_;rintro e2 w2 ⟨rfl,-,hb3⟩;have hs2:=hb3.size;have HO2:=zh (HO1.out.below hb3 (zr _));have HB2:=zh (HB1.out.trans (hb3.mono HB1.out.size));have hs10:w.heap.size<=w1.heap.size:=HB1.out.size;have HL2:=zh (HL1.out.low (hb3.mono (yT hB hs10)));have Hb0:=zh (Hb0.out.trans (hb3.mono (yT hB hs10)));have hlt2:=HO2.out.lt;have hb23:B<=w2.heap.size:=by omega
 clear hb3 x0 HLv HO1 HL1 HB1;have HA0:Hid (∀ W,Below w2.heap.size w2 W->Calls Tryz.prog 140 #[.int .i64 0,.int .i64 0,.pointer (some ⟨w.heap.size,0,none⟩)] W (TxtE (zak x 1) W)):=zh (fun W hb=>za1 (w0:=w0) (i:=0) (lv:=0) (y:=x) (HO2.out.below hb (zr _)) (HL2.out.low (hb.mono (by omega))) (Hb0.out.trans (hb.mono (by omega))) (by have:=hb.size;omega) (by omega) rfl h0);obtain ⟨T0,hT0⟩:∃ T,zak x 1=T:=⟨_,rfl⟩;obtain ⟨S0,hS0⟩:∃ S,bstr T0=S:=⟨_,rfl⟩;have hln0:S0.size<=1000000000000000:=by rw [<- hS0,zaC,<- hT0];exact hz0 _
 rw [hT0] at HA0;unfold TxtE at HA0;simp only [hS0] at HA0;have HS0:=zh (show S0=bstr (zak x 1) from by rw [hT0,hS0]);clear hT0 hS0;have HA1:Hid (∀ W,Below w2.heap.size w2 W->Calls Tryz.prog 140 #[.int .i64 1,.int .i64 0,.pointer (some ⟨w.heap.size,0,none⟩)] W (TxtE (zak y 1) W)):=zh (fun W hb=>za1 (w0:=w0) (i:=1) (lv:=0) (y:=y) (HO2.out.below hb (zr _)) (HL2.out.low (hb.mono (by omega))) (Hb0.out.trans (hb.mono (by omega))) (by have:=hb.size;omega) (by omega) rfl h1);obtain ⟨T1,hT1⟩:∃ T,zak y 1=T:=⟨_,rfl⟩;obtain ⟨S1,hS1⟩:∃ S,bstr T1=S:=⟨_,rfl⟩;have hln1:S1.size<=1000000000000000:=by rw [<- hS1,zaC,<- hT1];exact hz1 _
 rw [hT1] at HA1;unfold TxtE at HA1;simp only [hS1] at HA1;have HS1:=zh (show S1=bstr (zak y 1) from by rw [hT1,hS1]);clear hT1 hS1;have hen:=zbf;have x0:=HO2.out.cell (i:=0) rfl;go_wp2_with fail
 refine (HA0.out _ (yR _ _)).mono ?_;rintro e3 w3 ⟨rfl,hb3⟩;have Hw3:=zh hb3;clear hb3 HA0;clear x0;go_wp2_with fail
 refine (HA1.out _ Hw3.out).mono ?_;rintro e4 w4 ⟨rfl,hb3⟩;have Hw4:=zh (Hw3.out.trans (hb3.mono Hw3.out.size));clear hb3 HA1;go_wp2_with fail
 refine yE (v:=.string ((({ data:=#[109,97,120,40] }:ByteArray)++S0++{ data:=#[44,32] })++S1++{ data:=#[41] })) (by simp [results,Tryz.results111,go_sem]) rfl ⟨?_,HB2.out.trans (Hw4.out.mono HB2.out.size)⟩;rw [<- HTX.out,HS0.out,HS1.out];simp [zax,zbV]

theorem zjG {N:Nat} (h1:1<=N) (h2:N<=10):kindWordsP[N]? = some (kindWords.getD (N - 1) []):=by
 have:N=1∨N=2∨N=3∨N=4∨N=5∨N=6∨N=7∨N=8∨N=9∨N=10:=by omega
 rcases this with rfl | rfl | rfl | rfl | rfl | rfl | rfl | rfl | rfl | rfl <;> rfl
theorem zkq {w:World} {v:Value} (h:Strs w kindWordsP v) {N:Nat} (h1:1<=N) (h2:N<=10):∃ b off cap,v=.slice (some ⟨b,off,none⟩) 11 cap/\w.cell? ⟨b,off+N,none⟩=some (.string (bstr (kindWords.getD (N - 1) []))):=by
 obtain ⟨a,cap,rfl,-,-,-,hc⟩:=h;obtain ⟨b,off,rfl,hh⟩:=hc (by decide);refine ⟨b,off,cap,rfl,?_⟩;rw [hh N (by show N < 11 * 1;omega),List.getElem?_map,zjG h1 h2];rfl
theorem ziv {w0 w:World} {B:Nat} {x:Ex} {N:Nat} (hn1:1<=N) (hn2:N<=10) (h0:WrC w0 B x) (hz0:∀ k,(zak x k).length<=1000000000000000) {v:Value} (hL:EsL w B [x] v) (hb0:Below B w0 w) (hB:B<=w.heap.size) (lv:Nat) (hlv:lv<=5) :
  Calls Tryz.prog 111 #[.agg #[.int .u8 3,.int .i64 (N:Int),.string { data:=#[] },v],.int .i64 lv] w (TxtE (kindWords.getD (N - 1) []++[91]++zak x 1++[93]) w):=by
 obtain ⟨a,cap,rfl,hc1,hc2⟩:=hL.form;have hmf:=zmf Tryz.prog
 obtain ⟨W0,hW0,hb1,hO0⟩:∃ W0,W0=w.alloc (.cells #[.int .u8 3,.int .i64 (N:Int),.string { data:=#[] },.slice a 1 cap] 193)/\Below w.heap.size w W0/\OwnV W0 w.heap.size 193 [.int .u8 3,.int .i64 (N:Int),.string { data:=#[] },.slice a 1 cap]:=⟨_,rfl,(yR _ _).alloc (zr _) _,OwnV.new _ _ _⟩;have HBi:=zh (zbw 3 W0);have hB6:zar 3=6:=by decide
 rw [hB6,zbW hB6,show bstr []=({ data:=#[] }:ByteArray) from rfl] at HBi;obtain ⟨TX,hTX⟩:∃ T,(kindWords.getD (N - 1) []++[91]++zak x 1++[93])=T:=⟨_,rfl⟩;rw [hTX];have HTX:=zh hTX;clear hTX;have HW0:=zh hW0;have HO0:=zh hO0;have Hb1:=zh hb1;have HL:=zh (hL.low (hb1.mono hB));have Hb0:=zh (hb0.trans (hb1.mono hB));have x0:=hO0.cell (i:=0) rfl;clear hW0 hO0 hb1 hL hb0;go_enter Tryz.func111,Tryz.ntmps111
 go_upto_region 1 with (fail)
 rw [<- HW0.out];go_wp2_with fail
 go_at_call 141;refine HBi.out.mono ?_;rintro e1 w1 ⟨rfl,hb2⟩;have hs1:=hb2.size;have HO1:=zh (HO0.out.below hb2 (zr _));have HB1:=zh (Hb1.out.trans (hb2.mono Hb1.out.size));have hs0:=Hb1.out.size;have HL1:=zh (HL.out.low (hb2.mono (yT hB hs0)));have Hb0:=zh (Hb0.out.trans (hb2.mono (yT hB hs0)));have hlt1:=HO1.out.lt;clear hb2 x0 HO0 Hb1 HL HBi;have x0:=HO1.out.cell (i:=0) rfl;have HLv:=zh (za7 w1);go_wp2_with fail
 go_at_call 142;refine HLv.out.mono ?_;rintro e2 w2 ⟨rfl,-,hb3⟩;have hs2:=hb3.size;have HO2:=zh (HO1.out.below hb3 (zr _));have HB2:=zh (HB1.out.trans (hb3.mono HB1.out.size));have hs10:w.heap.size<=w1.heap.size:=HB1.out.size;have HL2:=zh (HL1.out.low (hb3.mono (yT hB hs10)));have Hb0:=zh (Hb0.out.trans (hb3.mono (yT hB hs10)));have hlt2:=HO2.out.lt;have hb23:B<=w2.heap.size:=by omega
 clear hb3 x0 HLv HO1 HL1 HB1;have HA0:Hid (∀ W,Below w2.heap.size w2 W->Calls Tryz.prog 140 #[.int .i64 0,.int .i64 0,.pointer (some ⟨w.heap.size,0,none⟩)] W (TxtE (zak x 1) W)):=zh (fun W hb=>za1 (w0:=w0) (i:=0) (lv:=0) (y:=x) (HO2.out.below hb (zr _)) (HL2.out.low (hb.mono (by omega))) (Hb0.out.trans (hb.mono (by omega))) (by have:=hb.size;omega) (by omega) rfl h0);obtain ⟨T0,hT0⟩:∃ T,zak x 1=T:=⟨_,rfl⟩;obtain ⟨S0,hS0⟩:∃ S,bstr T0=S:=⟨_,rfl⟩;have hln0:S0.size<=1000000000000000:=by rw [<- hS0,zaC,<- hT0];exact hz0 _
 rw [hT0] at HA0;unfold TxtE at HA0;simp only [hS0] at HA0;have HS0:=zh (show S0=bstr (zak x 1) from by rw [hT0,hS0]);clear hT0 hS0;have hen:=zbf;obtain ⟨x0,x1⟩:=yc2 HO2.out;obtain ⟨KW,hKW⟩:∃ K,bstr (kindWords.getD (N - 1) [])=K:=⟨_,rfl⟩
 have hkl:KW.size<=100:=by
  rw [<- hKW,zaC];have:N=1∨N=2∨N=3∨N=4∨N=5∨N=6∨N=7∨N=8∨N=9∨N=10:=by omega
  rcases this with rfl | rfl | rfl | rfl | rfl | rfl | rfl | rfl | rfl | rfl <;> decide
 have HKW:=zh hKW;have hN1:(0:Int)<=(N:Int):=by omega
 have hN2:(N:Int) < 11:=by omega
 have hN3:¬ (N:Int) < 0:=by omega
 clear hKW;go_upto_region 18 with (fail)
 go_region_with (first | (go_at_call 112;refine (zgz _).mono ?_;rintro e3 w3 ⟨v3,rfl,hS3,hb3⟩;obtain ⟨kb,koff,kcap,rfl,kc⟩:=zkq hS3 hn1 hn2;rw [HKW.out] at kc;have hb3':Below w2.heap.size w2 w3:=((yR _ _).drew).trans hb3;have x1:=(HO2.out.below hb3' (zr _)).cell (i:=1) rfl;clear hS3) | (refine (HA0.out _ hb3').mono ?_;rintro e4 w4 ⟨rfl,hb4⟩;have kc:=Below.keep hb4 kc;have hb4':=hb3'.trans (hb4.mono hb3'.size);have x1:=(HO2.out.below hb4' (zr _)).cell (i:=1) rfl))
 all_goals
  have Hb4:=zh hb4';clear hb4' hb3' hb4 hb3 x0 x1 kc;go_wp2_with fail
  refine yE (v:=.string (((KW++{ data:=#[91] })++S0)++{ data:=#[93] })) (by simp [results,Tryz.results111,go_sem]) rfl ⟨?_,by first | exact HB2.out.trans (Hb4.out.mono HB2.out.size) | exact (HB2.out.trans (Hb4.out.mono HB2.out.size)).drew⟩;rw [<- HTX.out,HS0.out,<- HKW.out];simp [zax,zbV]
theorem ziw {w0 w:World} {B:Nat} {op:Int} {x y:Ex} {m:Nat} (hm:zar op=m+1) (hm5:m < 5) (hm2:m=2) (hsg:zaO op≠[]) (hsl:(zaO op).length<=2) (h0:WrC w0 B x) (h1:WrC w0 B y) (hz0:∀ k,(zak x k).length<=1000000000000000) (hz1:∀ k,(zak y k).length<=1000000000000000) {v:Value} (hL:EsL w B [x,y] v) (hb0:Below B w0 w) (hB:B<=w.heap.size) (lv:Nat) (hlv:lv<=5) :
  Calls Tryz.prog 111 #[.agg #[.int .u8 op,.int .i64 0,.string { data:=#[] },v],.int .i64 lv] w (TxtE (zaN (2+1,zaN (zat x,zab x) (zby (2+1))++[32]++zaO op++[32]++zaN (zat y,zab y) (2+2)) (lv+1)) w):=by
 subst hm2;obtain ⟨a,cap,rfl,hc1,hc2⟩:=hL.form;have hmf:=zmf Tryz.prog
 obtain ⟨W0,hW0,hb1,hO0⟩:∃ W0,W0=w.alloc (.cells #[.int .u8 op,.int .i64 0,.string { data:=#[] },.slice a 2 cap] 193)/\Below w.heap.size w W0/\OwnV W0 w.heap.size 193 [.int .u8 op,.int .i64 0,.string { data:=#[] },.slice a 2 cap]:=⟨_,rfl,(yR _ _).alloc (zr _) _,OwnV.new _ _ _⟩;have HBi:=zh (zbw op W0);have hT:zdk op=zaO op:=by unfold zdk;rw [yP (by omega)]
 rw [hm,hT,show ((2+1:Nat):Int) - 1=2 from rfl] at HBi;rw [show zaN (zat x,zab x) (zby (2+1))=zak x (zby (2+1)) from by cases x;rfl,show zaN (zat y,zab y) (2+2)=zak y (2+2) from by cases y;rfl];have hlb:zby (2+1)=4:=by unfold zby;rfl
 rw [hlb];obtain ⟨TX,hTX⟩:∃ T,(zaN (2+1,zak x 4++[32]++zaO op++[32]++zak y (2+2)) (lv+1))=T:=⟨_,rfl⟩;rw [hTX];have HTX:=zh hTX;clear hTX hlb;obtain ⟨SG,hSG⟩:∃ S,bstr (zaO op)=S:=⟨_,rfl⟩;have hsn:¬ SG.toList=[]:=fun h=>hsg (str_nil.1 (by rw [hSG];exact h))
 have hsn2:SG.toList.isEmpty=false:=by rw [List.isEmpty_eq_false_iff];exact hsn
 have hsn3:(SG.toList != [])=true:=by simpa using hsn
 have hsn4:(SG.toList == [])=false:=by simpa using hsn
 have hsz:SG.size<=2:=by rw [<- hSG,zaC];exact hsl
 rw [hSG] at HBi;have HSG:=zh hSG;clear hSG hT hsg hsl;have HW0:=zh hW0;have HO0:=zh hO0;have Hb1:=zh hb1;have HL:=zh (hL.low (hb1.mono hB));have Hb0:=zh (hb0.trans (hb1.mono hB));have x0:=hO0.cell (i:=0) rfl;clear hW0 hO0 hb1 hL hb0;go_enter Tryz.func111,Tryz.ntmps111
 go_upto_region 1 with (fail)
 rw [<- HW0.out];go_wp2_with fail
 go_at_call 141;refine HBi.out.mono ?_;rintro e1 w1 ⟨rfl,hb2⟩;have hs1:=hb2.size;have HO1:=zh (HO0.out.below hb2 (zr _));have HB1:=zh (Hb1.out.trans (hb2.mono Hb1.out.size));have hs0:=Hb1.out.size;have HL1:=zh (HL.out.low (hb2.mono (yT hB hs0)));have Hb0:=zh (Hb0.out.trans (hb2.mono (yT hB hs0)));have hlt1:=HO1.out.lt;clear hb2 x0 HO0 Hb1 HL HBi;have x0:=HO1.out.cell (i:=0) rfl;have HO2:=HO1;have HL2:=HL1;have HB2:=HB1;have hen:=zbf;have hb23:B<=w1.heap.size:=by omega
 clear HO1 HL1 HB1;have HA0:Hid (∀ W,Below w1.heap.size w1 W->Calls Tryz.prog 140 #[.int .i64 0,.int .i64 3,.pointer (some ⟨w.heap.size,0,none⟩)] W (TxtE (zak x 4) W)):=zh (fun W hb=>za1 (w0:=w0) (i:=0) (lv:=3) (y:=x) (HO2.out.below hb (zr _)) (HL2.out.low (hb.mono (by omega))) (Hb0.out.trans (hb.mono (by omega))) (by have:=hb.size;omega) (by omega) rfl h0);obtain ⟨T0,hT0⟩:∃ T,zak x 4=T:=⟨_,rfl⟩;obtain ⟨S0,hS0⟩:∃ S,bstr T0=S:=⟨_,rfl⟩;have hln0:S0.size<=1000000000000000:=by rw [<- hS0,zaC,<- hT0];exact hz0 _
 rw [hT0] at HA0;unfold TxtE at HA0;simp only [hS0] at HA0;have HS0:=zh (show S0=bstr (zak x 4) from by rw [hT0,hS0]);clear hT0 hS0;have HA1:Hid (∀ W,Below w1.heap.size w1 W->Calls Tryz.prog 140 #[.int .i64 1,.int .i64 3,.pointer (some ⟨w.heap.size,0,none⟩)] W (TxtE (zak y (2+2)) W)):=zh (fun W hb=>za1 (w0:=w0) (i:=1) (lv:=3) (y:=y) (HO2.out.below hb (zr _)) (HL2.out.low (hb.mono (by omega))) (Hb0.out.trans (hb.mono (by omega))) (by have:=hb.size;omega) (by omega) rfl h1);obtain ⟨T1,hT1⟩:∃ T,zak y (2+2)=T:=⟨_,rfl⟩;obtain ⟨S1,hS1⟩:∃ S,bstr T1=S:=⟨_,rfl⟩;have hln1:S1.size<=1000000000000000:=by rw [<- hS1,zaC,<- hT1];exact hz1 _
 rw [hT1] at HA1;unfold TxtE at HA1;simp only [hS1] at HA1;have HS1:=zh (show S1=bstr (zak y (2+2)) from by rw [hT1,hS1]);clear hT1 hS1;go_wp2_with fail
 refine (HA0.out _ (yR _ _)).mono ?_;rintro e3 w3 ⟨rfl,hb3⟩;have Hw3:=zh hb3;clear hb3 HA0;go_wp2_with fail
 refine (HA1.out _ Hw3.out).mono ?_;rintro e4 w4 ⟨rfl,hb3⟩;have Hw4:=zh (Hw3.out.trans (hb3.mono Hw3.out.size));clear hb3 HA1;have hw4:=HB2.out.trans (Hw4.out.mono HB2.out.size);have Hw5:=zh hw4;clear hw4 x0;by_cases hlm:2 < lv
 ·have hli:2 < (lv:Int):=by omega
  go_wp2_with fail
  refine yE (v:=.string (({ data:=#[40] }++((((S0++{ data:=#[32] })++SG)++{ data:=#[32] })++S1))++{ data:=#[41] })) (by simp [results,Tryz.results111,go_sem]) rfl ⟨?_,Hw5.out⟩;rw [<- HTX.out,HS0.out,HS1.out,<- HSG.out];unfold zaN;rw [yP (by show 2+1 < lv+1;omega)];simp [zax,zbV]
 ·have hli:¬ 2 < (lv:Int):=by omega
  go_wp2_with fail
  refine yE (v:=.string ((((S0++{ data:=#[32] })++SG)++{ data:=#[32] })++S1)) (by simp [results,Tryz.results111,go_sem]) rfl ⟨?_,Hw5.out⟩;rw [<- HTX.out,HS0.out,HS1.out,<- HSG.out];unfold zaN;rw [yN (by show ¬ 2+1 < lv+1;omega)];simp [zax,zbV]
theorem zix {w0 w:World} {B:Nat} {op:Int} {x y:Ex} {m:Nat} (hm:zar op=m+1) (hm5:m < 5) (hm2:m≠2) (hsg:zaO op≠[]) (hsl:(zaO op).length<=2) (h0:WrC w0 B x) (h1:WrC w0 B y) (hz0:∀ k,(zak x k).length<=1000000000000000) (hz1:∀ k,(zak y k).length<=1000000000000000) {v:Value} (hL:EsL w B [x,y] v) (hb0:Below B w0 w) (hB:B<=w.heap.size) (lv:Nat) (hlv:lv<=5) :
  Calls Tryz.prog 111 #[.agg #[.int .u8 op,.int .i64 0,.string { data:=#[] },v],.int .i64 lv] w (TxtE (zaN (m+1,zaN (zat x,zab x) (zby (m+1))++[32]++zaO op++[32]++zaN (zat y,zab y) (m+2)) (lv+1)) w):=by
 obtain ⟨a,cap,rfl,hc1,hc2⟩:=hL.form;have hmf:=zmf Tryz.prog
 obtain ⟨W0,hW0,hb1,hO0⟩:∃ W0,W0=w.alloc (.cells #[.int .u8 op,.int .i64 0,.string { data:=#[] },.slice a 2 cap] 193)/\Below w.heap.size w W0/\OwnV W0 w.heap.size 193 [.int .u8 op,.int .i64 0,.string { data:=#[] },.slice a 2 cap]:=⟨_,rfl,(yR _ _).alloc (zr _) _,OwnV.new _ _ _⟩;have HBi:=zh (zbw op W0);have hT:zdk op=zaO op:=by unfold zdk;rw [yP (by omega)]
 rw [hm,hT,show ((m+1:Nat):Int) - 1=(m:Int) from by omega] at HBi;rw [show zaN (zat x,zab x) (zby (m+1))=zak x (zby (m+1)) from by cases x;rfl,show zaN (zat y,zab y) (m+2)=zak y (m+2) from by cases y;rfl];have hlb:zby (m+1)=(m+1):=by unfold zby;rw [yN (by omega)]
 rw [hlb];obtain ⟨TX,hTX⟩:∃ T,(zaN (m+1,zak x (m+1)++[32]++zaO op++[32]++zak y (m+2)) (lv+1))=T:=⟨_,rfl⟩;rw [hTX];have HTX:=zh hTX;clear hTX hlb;obtain ⟨SG,hSG⟩:∃ S,bstr (zaO op)=S:=⟨_,rfl⟩;have hsn:¬ SG.toList=[]:=fun h=>hsg (str_nil.1 (by rw [hSG];exact h))
 have hsn2:SG.toList.isEmpty=false:=by rw [List.isEmpty_eq_false_iff];exact hsn
 have hsn3:(SG.toList != [])=true:=by simpa using hsn
 have hsn4:(SG.toList == [])=false:=by simpa using hsn
 have hsz:SG.size<=2:=by rw [<- hSG,zaC];exact hsl
 rw [hSG] at HBi;have HSG:=zh hSG;clear hSG hT hsg hsl;have HW0:=zh hW0;have HO0:=zh hO0;have Hb1:=zh hb1;have HL:=zh (hL.low (hb1.mono hB));have Hb0:=zh (hb0.trans (hb1.mono hB));have x0:=hO0.cell (i:=0) rfl;clear hW0 hO0 hb1 hL hb0;go_enter Tryz.func111,Tryz.ntmps111
 go_upto_region 1 with (fail)
 rw [<- HW0.out];go_wp2_with fail
 go_at_call 141;refine HBi.out.mono ?_;rintro e1 w1 ⟨rfl,hb2⟩;have hs1:=hb2.size;have HO1:=zh (HO0.out.below hb2 (zr _));have HB1:=zh (Hb1.out.trans (hb2.mono Hb1.out.size));have hs0:=Hb1.out.size;have HL1:=zh (HL.out.low (hb2.mono (yT hB hs0)));have Hb0:=zh (Hb0.out.trans (hb2.mono (yT hB hs0)));have hlt1:=HO1.out.lt;clear hb2 x0 HO0 Hb1 HL HBi;have x0:=HO1.out.cell (i:=0) rfl;have HO2:=HO1;have HL2:=HL1;have HB2:=HB1;have hen:=zbf;have hb23:B<=w1.heap.size:=by omega
 have hm5i:(m:Int) < 5:=by omega
 have hi1:IntKind.i64.wrap ((m:Int)+1)=(m:Int)+1:=IntWalk.i64_in _ (by omega);clear HO1 HL1 HB1;have HA0:Hid (∀ W,Below w1.heap.size w1 W->Calls Tryz.prog 140 #[.int .i64 0,.int .i64 (m:Int),.pointer (some ⟨w.heap.size,0,none⟩)] W (TxtE (zak x (m+1)) W)):=zh (fun W hb=>za1 (w0:=w0) (i:=0) (lv:=m) (y:=x) (HO2.out.below hb (zr _)) (HL2.out.low (hb.mono (by omega))) (Hb0.out.trans (hb.mono (by omega))) (by have:=hb.size;omega) (by omega) rfl h0);obtain ⟨T0,hT0⟩:∃ T,zak x (m+1)=T:=⟨_,rfl⟩;obtain ⟨S0,hS0⟩:∃ S,bstr T0=S:=⟨_,rfl⟩;have hln0:S0.size<=1000000000000000:=by rw [<- hS0,zaC,<- hT0];exact hz0 _
 rw [hT0] at HA0;unfold TxtE at HA0;simp only [hS0] at HA0;have HS0:=zh (show S0=bstr (zak x (m+1)) from by rw [hT0,hS0]);clear hT0 hS0;have HA1:Hid (∀ W,Below w1.heap.size w1 W->Calls Tryz.prog 140 #[.int .i64 1,.int .i64 ((m:Int)+1),.pointer (some ⟨w.heap.size,0,none⟩)] W (TxtE (zak y (m+2)) W)):=zh (fun W hb=>za1 (w0:=w0) (i:=1) (lv:=(m+1)) (y:=y) (HO2.out.below hb (zr _)) (HL2.out.low (hb.mono (by omega))) (Hb0.out.trans (hb.mono (by omega))) (by have:=hb.size;omega) (by omega) rfl h1);obtain ⟨T1,hT1⟩:∃ T,zak y (m+2)=T:=⟨_,rfl⟩;obtain ⟨S1,hS1⟩:∃ S,bstr T1=S:=⟨_,rfl⟩;have hln1:S1.size<=1000000000000000:=by rw [<- hS1,zaC,<- hT1];exact hz1 _
 rw [hT1] at HA1;unfold TxtE at HA1;simp only [hS1] at HA1;have HS1:=zh (show S1=bstr (zak y (m+2)) from by rw [hT1,hS1]);clear hT1 hS1;have hm2i:¬ (m:Int)=2:=by omega
 have hm2b:((m:Int) == 2)=false:=by simpa using hm2i
 go_wp2_with fail
 refine (HA0.out _ (yR _ _)).mono ?_;rintro e3 w3 ⟨rfl,hb3⟩;have Hw3:=zh hb3;clear hb3 HA0;go_wp2_with fail
 refine (HA1.out _ Hw3.out).mono ?_;rintro e4 w4 ⟨rfl,hb3⟩;have Hw4:=zh (Hw3.out.trans (hb3.mono Hw3.out.size));clear hb3 HA1;have hw4:=HB2.out.trans (Hw4.out.mono HB2.out.size);have Hw5:=zh hw4;clear hw4 x0;by_cases hlm:m < lv
 ·have hli:(m:Int) < (lv:Int):=by omega
  go_wp2_with fail
  refine yE (v:=.string (({ data:=#[40] }++((((S0++{ data:=#[32] })++SG)++{ data:=#[32] })++S1))++{ data:=#[41] })) (by simp [results,Tryz.results111,go_sem]) rfl ⟨?_,Hw5.out⟩;rw [<- HTX.out,HS0.out,HS1.out,<- HSG.out];unfold zaN;rw [yP (by show m+1 < lv+1;omega)];simp [zax,zbV]
 ·have hli:¬ (m:Int) < (lv:Int):=by omega
  go_wp2_with fail
  refine yE (v:=.string ((((S0++{ data:=#[32] })++SG)++{ data:=#[32] })++S1)) (by simp [results,Tryz.results111,go_sem]) rfl ⟨?_,Hw5.out⟩;rw [<- HTX.out,HS0.out,HS1.out,<- HSG.out];unfold zaN;rw [yN (by show ¬ m+1 < lv+1;omega)];simp [zax,zbV]
theorem zcL (p:Nat × List UInt8) (k:Nat):(zaN p k).length<=p.2.length+2:=by
 unfold zaN;split
 ·simp only [yA,yB,yL];omega
 ·omega
theorem zkr (x:Ex) (k:Nat):(zak x k).length<=(zab x).length+2:=by
 cases x;exact zcL _ k
theorem zd7 {n:Int} (h0:1<=n) (h1:n<=10):(kindWords.getD (n - 1).toNat []).length<=6:=by
 have:n=1∨n=2∨n=3∨n=4∨n=5∨n=6∨n=7∨n=8∨n=9∨n=10:=by omega
 rcases this with rfl | rfl | rfl | rfl | rfl | rfl | rfl | rfl | rfl | rfl <;> decide
theorem zeF {op:Int} (h0:10<=op) (h1:op<=22):(zaO op).length<=2/\zaO op≠[]:=by
 have:op=10∨op=11∨op=12∨op=13∨op=14∨op=15∨op=16∨op=17∨op=18∨op=19∨op=20∨op=21∨op=22:=by omega
 rcases this with rfl | rfl | rfl | rfl | rfl | rfl | rfl | rfl | rfl | rfl | rfl | rfl | rfl <;> decide
theorem zjH {n:Int} (h0:0<=n) (h1:n<=9223372036854775807):(Lib.decDigits n.toNat).length<=21:=by
 have:=Lib.itoa_length_le n (by omega) h1;unfold Lib.itoa at this;rwa [yN (by omega)] at this
theorem zcS {s:List UInt8} (h:za4 s=true):s.length<=24:=by
 cases s with
 | nil=>exact Nat.zero_le _
 | cons b r =>
  simp only [za4,yC,yQ] at h;exact h.1.1
theorem zlG:∀ {d:Nat} {x:Ex},Shp d x->(zab x).length+24<=24 * 2 ^ d:=by
 intro d x h;have e:∀ k,2 ^ (k+1)=2 * 2 ^ k:=fun k=>by rw [Nat.pow_succ];omega
 have p:∀ k,1<=2 ^ k:=fun k=>Nat.one_le_two_pow
 induction h with
 | @num d n h0 h1=>rw [zcq,e];have:=zjH h0 h1;have:=p d;omega
 | @var d s h=>rw [zcr,e];have:=zcS (zbG h).1;have:=p d;omega
 | @comp d n a h0 h1 _ ih=>rw [zdu,e];simp only [yA,yB,yL];have:=zd7 h0 h1;have:=p d;omega
 | @leaf d op h =>
  have:=p d;rcases h with rfl | rfl
  ·rw [zep,e];simp only [yB,yL];omega
  ·rw [zeq,e];simp only [yB,yL];omega
 | @call d op a ho _ ih =>
  have:=p d;rcases ho with rfl | rfl
  ·rw [zdv,e];simp only [yA,yB,yL];omega
  ·rw [zcN,e];simp only [yA,yB,yL];omega
 | @pre d op a ho _ ih =>
  have:=p d;have:=zcL (zat a,zab a) 6;simp only at this;rcases ho with rfl | rfl
  ·rw [zcs,e];simp only [yA,yB,yL];omega
  ·rw [zdm,e];simp only [yA,yB,yL];omega
 | @bin d op a b h0 h1 _ _ iha ihb =>
  rw [zb0 h0 h1,e];simp only [yA,yB,yL];have:=zcL (zat a,zab a) (zby (zar op));have:=zcL (zat b,zab b) (zar op+1);have:=(zeF h0 h1).1
  simp only at *
  omega
 | @two d op a b ho _ _ iha ihb =>
  have:=p d;rcases ho with rfl | rfl
  ·rw [zdT,e];simp only [yA,yB,yL];omega
  ·rw [zdU,e];simp only [yA,yB,yL];omega
theorem zaE {d:Nat} {x:Ex} (h:Shp d x) (hd:d<=40) (k:Nat):(zak x k).length<=1000000000000000:=by
 have h1:=zlG h;have h2:=zkr x k;have h3:2 ^ d<=2 ^ 40:=Nat.pow_le_pow_right (by decide) hd;have h4:(2:Nat) ^ 40=1099511627776:=by decide
 omega
theorem zaL (x:Ex):zak x 1=zab x:=by
 cases x with
 | mk op n name args =>
  show zaN (zar op,_) 1=_;unfold zaN;have:=zhN (.mk op n name args);rw [yN (by show ¬ zar op < 1;have h:zat (.mk op n name args)=zar op:=rfl;omega)]
theorem zbC {op n:Int} {name:List UInt8} {args:List Ex} (h:zar op=6) {k:Nat} (hk:k<=6):zak (.mk op n name args) k=zab (.mk op n name args):=by
 show zaN (zar op,_) k=_;unfold zaN;rw [yN (by show ¬ zar op < k;omega)]
theorem zcm {w0:World} {B:Nat} (hG:Glob w0) (hB:glB<=B):∀ {d:Nat} {x:Ex},Shp d x->d<=40->WrC w0 B x:=by
 intro d x h
 induction h with
 | @num d n h0 h1 =>
  intro hd op' n' name' args' v w lv e hb0 hBw hL hlv;cases e;rw [zbC rfl (by omega),zcq]
  exact zja h0 h1 (hG.below hb0 hB) hL hb0 hBw lv hlv
 | @var d s h =>
  intro hd op' n' name' args' v w lv e hb0 hBw hL hlv;cases e;rw [zbC rfl (by omega),zcr]
  exact zi9 hL hb0 hBw lv hlv
 | @comp d n a h0 h1 hs ih =>
  intro hd op' n' name' args' v w lv e hb0 hBw hL hlv;cases e;rw [zbC rfl (by omega),zdu,<- zaL];obtain ⟨N,rfl⟩:∃ N:Nat,n=(N:Int):=⟨n.toNat,by omega⟩;rw [show ((N:Int) - 1).toNat=N - 1 from by omega]
  exact ziv (by omega) (by omega) (ih (by omega)) (zaE hs (by omega)) hL hb0 hBw lv hlv
 | @leaf d op h =>
  intro hd op' n' name' args' v w lv e hb0 hBw hL hlv;cases e;rcases h with rfl | rfl
  ·rw [zbC rfl (by omega),zep];exact zis hL hb0 hBw lv hlv
  ·rw [zbC rfl (by omega),zeq];exact zit hL hb0 hBw lv hlv
 | @call d op a ho hs ih =>
  intro hd op' n' name' args' v w lv e hb0 hBw hL hlv;cases e;rcases ho with rfl | rfl
  ·rw [zbC rfl (by omega),zdv,<- zaL];exact ziu (ih (by omega)) (zaE hs (by omega)) hL hb0 hBw lv hlv
  ·rw [zbC rfl (by omega),zcN,<- zaL];exact zjd (ih (by omega)) (zaE hs (by omega)) hL hb0 hBw lv hlv
 | @pre d op a ho hs ih =>
  intro hd op' n' name' args' v w lv e hb0 hBw hL hlv;cases e;have hp:zaN (zat a,zab a) 6=zak a 6:=by cases a;rfl
  rcases ho with rfl | rfl
  ·rw [zbC rfl (by omega),zcs,hp];exact zjb (ih (by omega)) (zaE hs (by omega)) hL hb0 hBw lv hlv
  ·rw [zbC rfl (by omega),zdm,hp];exact zjc (ih (by omega)) (zaE hs (by omega)) hL hb0 hBw lv hlv
 | @bin d op a b h0 h1 ha hb iha ihb =>
  intro hd op' n' name' args' v w lv e hb0 hBw hL hlv;cases e;obtain ⟨-,-,hb1,hb5⟩:=zdE h0 h1;obtain ⟨m,hm⟩:∃ m,zar op=m+1:=⟨zar op - 1,by omega⟩;obtain ⟨hsl,hsn⟩:=zeF h0 h1
  have ht:zak (.mk op 0 [] [a,b]) (lv+1)=zaN (m+1,zaN (zat a,zab a) (zby (m+1))++[32]++zaO op++[32]++zaN (zat b,zab b) (m+2)) (lv+1):=by
   show zaN (zar op,zab (.mk op 0 [] [a,b])) (lv+1)=_;rw [zb0 h0 h1,hm]
  rw [ht];by_cases hm2:m=2
  ·subst hm2;exact ziw (m:=2) hm (by omega) rfl hsn hsl (iha (by omega)) (ihb (by omega)) (zaE ha (by omega)) (zaE hb (by omega)) hL hb0 hBw lv hlv
  ·exact zix hm (by omega) hm2 hsn hsl (iha (by omega)) (ihb (by omega)) (zaE ha (by omega)) (zaE hb (by omega)) hL hb0 hBw lv hlv
 | @two d op a b ho ha hb iha ihb =>
  intro hd op' n' name' args' v w lv e hb0 hBw hL hlv;cases e;rcases ho with rfl | rfl
  ·rw [zbC rfl (by omega),zdT,<- zaL a,<- zaL b];exact zje (iha (by omega)) (ihb (by omega)) (zaE ha (by omega)) (zaE hb (by omega)) hL hb0 hBw lv hlv
  ·rw [zbC rfl (by omega),zdU,<- zaL a,<- zaL b];exact zjf (iha (by omega)) (ihb (by omega)) (zaE ha (by omega)) (zaE hb (by omega)) hL hb0 hBw lv hlv
theorem EsL.mono {w:World} {B B':Nat} {xs:List Ex} {v:Value} (h:EsL w B xs v) (hB:B<=B'):EsL w B' xs v:=by
 obtain ⟨cs,h1,h2,h3⟩:=h;exact ⟨cs,h1,h2.imp id fun k g e=>Nat.lt_of_lt_of_le (k g e) hB,h3.weak fun g _ hg=>Nat.lt_of_lt_of_le hg hB⟩
def zks (r : List UInt8 × Int) (w : World) (e : Ending) (w' : World) : Prop := e = .returned (.tuple #[.string (bstr r.1), .int .i64 r.2]) /\ Below w.heap.size w w'
end Go.Proofs.YtdhikpkecmaplaaGreatDoor
