/- The reference parser's operand, walked: the last case, a word that is no kind; and operand as a whole. -/
import Derived.Test.YtdeneckmoejcfaaRParEZs
import Derived.Deep.Cut
set_option linter.unusedSimpArgs false
set_option linter.unusedVariables false
set_option maxRecDepth 100000
set_option maxHeartbeats 4000000
namespace Go.Proofs.Ytdeneckmoejcfaa
open Go.RowKit

theorem ziH (l:List Tok) (E:Nat->Nat->Nat->PR Ex) (v:Value) (i o:Nat) (w:World) (hE:ExprC l E i) (hT:Toks w l v) (hG:Good l) (hi:i < l.length) (hm:l.length<=4611686018427387904) (ho:o<=300) (hk:(zaa l i).kind=1) (hp:isS l i [40]=false) (hK:¬ 0 < zap (zaa l i).text) :
  Calls Try.prog 114 #[v,.int .i64 i,.int .i64 o] w fun e w'=>zb4 l i w w' e (zah l E i o)/\Below w.heap.size w w':=by
 have hn:=hG.next hi (by rw [hk];decide)
 have Hf:Hid (zah l E i o=if 0 < zai (zaa l i).text (callWords.drop 0) 0 then (zad l E (i+1) o [40] [41] (if zai (zaa l i).text callWords 0<=2 then 1 else 2)).map (.mk (callOps.getD (zai (zaa l i).text callWords 0) 0) 0 [])
  else if (zaa l i).text=[116,105,99,107] then .ok (.mk 4 0 [] []) (i+1) else if (zaa l i).text=[115,101,108,102] then .ok (.mk 5 0 [] []) (i+1) else if zaP (zaa l i).text=false then .err i 120 else .ok (.mk 2 0 (zaa l i).text []) (i+1)):=zh (by
  unfold zah;rw [yN (by rw [hk];decide),yN (by rw [hp];decide),yN (by rw [hk];decide),yN hK];rfl)
 have HI:Hid (∀ w',Below w.heap.size w w'->Calls Try.prog 80 #[v,.int .i64 i,.string { data:=#[40] }] w' fun e w''=>e=.returned (.bool false)/\w'=w''):=zbO hT hi hp;have HN:Hid (∀ (many:Nat),1<=many->many<=2->∀ w',Below w.heap.size w w'->Calls Try.prog 78 #[v,.int .i64 ((i:Int)+1),.int .i64 o,.string { data:=#[40] },.string { data:=#[41] },.int .i64 many] w' fun e w''=>ExsE l (i+1) w' w'' e (zad l E (i+1) o [40] [41] many)/\Below w'.heap.size w' w''):=zh (fun many h1 h2 (w':World) (hb:Below w.heap.size w w')=>zcz l E v (i+1) o many [40] [41] w' (hE.mono (by omega)) (Sl.below (by omega) hT hb (zr _)) hG hn hm ho (by omega) (by omega));have HK:Hid (∀ w:World,_):=zh (fun w:World=>zb6 (zaa l i).text w);have HNm:Hid (∀ w:World,_):=zh (fun w:World=>zfU (zaa l i).text w);obtain ⟨a,cap,rfl,hc1,hc2⟩:=Sl.form hT;obtain ⟨b,off,rfl,c0,c1,c2,c3,c4⟩:=zaF hT hi;have hi1:(i:Int) < l.length:=by omega
 have hi2:(i:Int)<=4611686018427387904:=by omega
 have lt1:b < w.heap.size:=World.block_lt_of_cell? w _ c0;have ne1:¬ b=w.heap.size:=by omega
 rw [hk] at c0;have hK0:zap (zaa l i).text=0:=by omega
 rw [hK0] at HK
 generalize zah l E i o=final at *
 clear hp hG hE hT hk hK hK0
 generalize (zaa l i).text=S at *
 generalize (zaa l i).n=N at *
 generalize (zaa l i).line=L at *
 generalize (zaa l i).col=C at *
 go_enter Try.func114,Try.ntmps114
 go_wp2_with fail
 obtain ⟨W0,hW0,hb0,hBx,hTk,hsz⟩:=opened w zeroE (Tok.cells ⟨1,S,N,L,C⟩) 65 108;simp only [zeroE,Tok.cells] at hW0 hBx hTk;rw [<- hW0];clear hW0 c0 c1 c2 c3 c4 lt1 ne1;have Hb0:=zh hb0;have HBx:=zh hBx;have HTk:=zh hTk;obtain ⟨t0,t1⟩:=yc2 hTk;clear hBx hb0 hTk;go_at_call 80;refine (HI.out _ Hb0.out).mono ?_;rintro e1 w1 ⟨rfl,rfl⟩;go_wp2_with fail
 go_at_call 77;refine (HK.out _).mono ?_;rintro e2 w2 ⟨rfl,hb2⟩;have Hb2:=zh (Hb0.out.trans (hb2.mono Hb0.out.size));have HBx2:=zh (HBx.out.below hb2 (zr _));have HTk2:=zh (HTk.out.below hb2 (zr _));have hsz2:=yT hsz hb2.size;clear hb2 t0 t1 HBx HTk;obtain ⟨W3,hW3,hb3,hWd,hOp,hsz3⟩:=opened w2 (callWords.map fun s=>Value.string (bstr s)) (callOps.tail.map (Value.int .u8)) 9 5;have HBx3:=zh (HBx2.out.below hb3 (zr _));have HTk3:=zh (HTk2.out.below hb3 (zr _));have Hb3:=zh (Hb2.out.trans (hb3.mono Hb2.out.size));have HWd:=zh hWd;have HOp:=zh hOp;rw [hW3] at HBx3 HTk3 Hb3 HWd HOp;clear hb3 hWd hOp hsz3 hW3 HBx2 HTk2;go_wp2_with fail
 obtain ⟨g,hg⟩:∃ g,w2.heap.size=g:=⟨_,rfl⟩;rw [hg] at HWd HOp;rw [hg];go_loopw [7,8,18,19,20,21,82,83,84,85,86,87,88,89,90,91,92,93,94,95,96,97,98,99,100,101,102,103,104,105,106,107,108,109,110,111,112] (fun _ _ t18 _ _ _ _ _ _ _ _ _ _ _ _ _ _ _ _ _ _ _ _ _ _ _ _ _ _ _ _ _ _ _ _ _ _ wr=>∃ k:Nat,k<=4/\t18=.int .i64 k/\Hid (zai S (callWords.drop 0) 0=zai S (callWords.drop k) k)/\Hid (OwnV wr w.heap.size 65 zeroE)/\Hid (OwnV wr (w.heap.size+1) 108 (Tok.cells ⟨1,S,N,L,C⟩))/\Hid (OwnV wr g 9 (callWords.map fun s=>Value.string (bstr s)))/\Hid (OwnV wr (g+1) 5 (callOps.tail.map (Value.int .u8)))/\Hid (Below w.heap.size w wr)) (fun _ _ t18 _ _ _ _ _ _ _ _ _ _ _ _ _ _ _ _ _ _ _ _ _ _ _ _ _ _ _ _ _ _ _ _ _ _ _=>4 - (intOf t18).toNat)
 case atStart=>exact ⟨0,by omega,rfl,zh rfl,HBx3,HTk3,HWd,HOp,Hb3⟩
 case round =>
  clear HBx3 HTk3 HWd HOp Hb3;obtain ⟨k,hk4,rfl,Hk,HBx,HTk,HWd,HOp,Hb⟩:=hrel;have t1:=HTk.out.cell (i:=1) rfl;by_cases hlt:k < 4
  ·have hlt1:(k:Int) < 4:=by omega
   have hkl:k < callWords.length:=hlt;have d0:=HWd.out.cell (i:=k) (v:=.string (bstr (callWords[k]'hkl))) (by rw [List.getElem?_map,yD hkl];rfl);have Hst:=zh (zc5 (s:=S) (l:=callWords) (k:=k) hkl);obtain ⟨q,hq,hq2⟩:∃ q:Bool,((bstr S).toList == (bstr (callWords[k]'hkl)).toList)=q/\(q=true ↔ S=callWords[k]'hkl):=⟨_,rfl,zdP _ _⟩
   generalize callWords[k]'hkl=kw at *
   have Hq:=zh hq2;clear hq2;go_wp2_with fail
   refine zac (fun w'=>Below wr.heap.size wr w') (by kernel_rfl) (by kernel_rfl) ((yR _ _).drew) ?_
   repeat
    try simp only [Act.put,zs1,zs3,zs2]
    apply stepsSeq.cons
    ·intro w' hb1;have Hb1':=zh hb1;have t1':=Below.keep hb1 t1;have d0':=Below.keep hb1 d0;simp only [Act.put,zs1,zs3,zs2];go_wp2_with (fail)
     first | exact ⟨rfl,Hb1'.out⟩ | exact ⟨rfl,Hb1'.out.trans (hb2.mono Hb1'.out.size)⟩
   try simp only [Act.put,zs1,zs3,zs2]
   refine stepsSeq.nil ?_;intro w' hb1;have HBx1:=zh (HBx.out.below hb1 (zr _));have HTk1:=zh (HTk.out.below hb1 (zr _));have HWd1:=zh (HWd.out.below hb1 (zr _));have HOp1:=zh (HOp.out.below hb1 (zr _));have Hb1:=zh (Hb.out.trans (hb1.mono Hb.out.size));clear hb1 t1 d0 HBx HTk HWd HOp Hb;cases q
   ·have Hk2:Hid (zai S (callWords.drop 0) 0=zai S (callWords.drop (k+1)) (k+1)):=zh (by rw [Hk.out,Hst.out,yN (fun e=>by have:=Hq.out.2 e.symm;cases this)]);go_wp2_with fail
    go_roundw
    case rel=>exact ⟨k+1,by omega,by go_num,Hk2,HBx1,HTk1,HWd1,HOp1,Hb1⟩
    case measure=>simp [intOf];omega
   ·have Hf2:Hid (final=(zad l E (i+1) o [40] [41] (if k+1<=2 then 1 else 2)).map (.mk (callOps.getD (k+1) 0) 0 [])):=zh (by
     have:zai S callWords 0=k+1:=by
      have h1:zai S (callWords.drop 0) 0=zai S callWords 0:=rfl;rw [<- h1,Hk.out,Hst.out,yP (Hq.out.1 rfl).symm]
     rw [Hf.out,this,yP (by show 0 < zai S callWords 0;omega)])
    have hk4':k=0∨k=1∨k=2∨k=3:=by omega
    clear Hf Hk Hst Hq hlt hkl hlt1 hk4
    generalize w'=wv at *
    have hszv:w.heap.size+2<=wv.heap.size:=by have:=HTk1.out.lt;omega
    clear HTk1 HWd1;rcases hk4' with rfl | rfl | rfl | rfl
    ·have HN1:=zh (HN.out 1 (by omega) (by omega));have Hf3:Hid (final=(zad l E (i+1) o [40] [41] 1).map (.mk 6 0 [])):=zh (by rw [Hf2.out];rfl);have d3:wv.cell? ⟨g+1,0,none⟩=some (.int .u8 6):=HOp1.out.cell rfl
     generalize zad l E (i+1) o [40] [41] 1=R at *
     have Hop:=zh d3;clear Hf2 HN HOp1 d3;go_wp2_with fail
     go_at_call 78;refine (HN1.out _ Hb1.out).mono ?_;rintro e3 w3 ⟨he3,hb3⟩;have d3:=Below.keep hb3 Hop.out;have hBx:=HBx1.out.below hb3 (zr _);obtain ⟨x0,x1,x2,x3⟩:=yc4 hBx;have f0:=hBx.free;have Hb3:=zh (Hb1.out.trans (hb3.mono Hb1.out.size));clear hBx hb3
     cases R with
     | err a c =>
      obtain ⟨rfl,hc,hal⟩:=he3;have Hc:=zh hc;clear hc;go_wp2_with fail
      refine yE (v:=.tuple #[.agg #[.int .u8 6,.int .i64 0,.string { data:=#[] },.slice none 0 0],.int .i64 a,.int .i64 c]) (by simp [results,Try.results114,go_sem,x0,x1,x2,x3]) rfl ⟨by rw [Hf3.out];exact ⟨_,_,_,_,_,_,rfl,Hc.out,hal⟩,?_⟩
      exact (((Hb3.out.setCell (zr _) _).setCell (zr _) _).setCell (zr _) _).setCell (zr _) _
     | ok xs j =>
      obtain ⟨v2,rfl,⟨cs,hown,hX⟩,hij,hjl⟩:=he3;replace hX:=hX.weak1;obtain ⟨a2,cap2,rfl,hc3,hc4⟩:=Sl.form (Sl.of_own hown);have HX:=zh hX;have Hown:=zh hown;clear hX hown;go_wp2_with fail
      refine yE (v:=.tuple #[.agg #[.int .u8 6,.int .i64 0,.string { data:=#[] },.slice a2 xs.length cap2],.int .i64 j,.int .i64 0]) (by simp [results,Try.results114,go_sem,x0,x1,x2,x3]) rfl ⟨?_,(((Hb3.out.setCell (zr _) _).setCell (zr _) _).setCell (zr _) _).setCell (zr _) _⟩;rw [Hf3.out];refine ⟨_,rfl,⟨_,rfl,?_⟩,by omega,hjl⟩;have hP:¬ w.heap.size+2<=w.heap.size:=by omega
      have h1:ExsC w3 (fun g=>w.heap.size+2<=g) [.mk 6 0 [] xs] [.int .u8 6,.int .i64 0,.string (bstr []),.slice a2 xs.length cap2]:=
       ExsC.cons (op:=6) (n:=0) (name:=[]) (Sl.of_own Hown.out) (.inr fun g hg=>yT hszv (zck Hown.out g hg)) (HX.out.weak fun g _ h=>yT hszv h) ExsC.nil
      exact ((((h1.set hP).set hP).set hP).set hP).weak fun g _ h=>by omega
    ·have HN1:=zh (HN.out 1 (by omega) (by omega));have Hf3:Hid (final=(zad l E (i+1) o [40] [41] 1).map (.mk 9 0 [])):=zh (by rw [Hf2.out];rfl);have d3:wv.cell? ⟨g+1,1,none⟩=some (.int .u8 9):=HOp1.out.cell rfl
     generalize zad l E (i+1) o [40] [41] 1=R at *
     have Hop:=zh d3;clear Hf2 HN HOp1 d3;go_wp2_with fail
     go_at_call 78;refine (HN1.out _ Hb1.out).mono ?_;rintro e3 w3 ⟨he3,hb3⟩;have d3:=Below.keep hb3 Hop.out;have hBx:=HBx1.out.below hb3 (zr _);obtain ⟨x0,x1,x2,x3⟩:=yc4 hBx;have f0:=hBx.free;have Hb3:=zh (Hb1.out.trans (hb3.mono Hb1.out.size));clear hBx hb3
     cases R with
     | err a c =>
      obtain ⟨rfl,hc,hal⟩:=he3;have Hc:=zh hc;clear hc;go_wp2_with fail
      refine yE (v:=.tuple #[.agg #[.int .u8 9,.int .i64 0,.string { data:=#[] },.slice none 0 0],.int .i64 a,.int .i64 c]) (by simp [results,Try.results114,go_sem,x0,x1,x2,x3]) rfl ⟨by rw [Hf3.out];exact ⟨_,_,_,_,_,_,rfl,Hc.out,hal⟩,?_⟩
      exact (((Hb3.out.setCell (zr _) _).setCell (zr _) _).setCell (zr _) _).setCell (zr _) _
     | ok xs j =>
      obtain ⟨v2,rfl,⟨cs,hown,hX⟩,hij,hjl⟩:=he3;replace hX:=hX.weak1;obtain ⟨a2,cap2,rfl,hc3,hc4⟩:=Sl.form (Sl.of_own hown);have HX:=zh hX;have Hown:=zh hown;clear hX hown;go_wp2_with fail
      refine yE (v:=.tuple #[.agg #[.int .u8 9,.int .i64 0,.string { data:=#[] },.slice a2 xs.length cap2],.int .i64 j,.int .i64 0]) (by simp [results,Try.results114,go_sem,x0,x1,x2,x3]) rfl ⟨?_,(((Hb3.out.setCell (zr _) _).setCell (zr _) _).setCell (zr _) _).setCell (zr _) _⟩;rw [Hf3.out];refine ⟨_,rfl,⟨_,rfl,?_⟩,by omega,hjl⟩;have hP:¬ w.heap.size+2<=w.heap.size:=by omega
      have h1:ExsC w3 (fun g=>w.heap.size+2<=g) [.mk 9 0 [] xs] [.int .u8 9,.int .i64 0,.string (bstr []),.slice a2 xs.length cap2]:=
       ExsC.cons (op:=9) (n:=0) (name:=[]) (Sl.of_own Hown.out) (.inr fun g hg=>yT hszv (zck Hown.out g hg)) (HX.out.weak fun g _ h=>yT hszv h) ExsC.nil
      exact ((((h1.set hP).set hP).set hP).set hP).weak fun g _ h=>by omega
    ·have HN1:=zh (HN.out 2 (by omega) (by omega));have Hf3:Hid (final=(zad l E (i+1) o [40] [41] 2).map (.mk 23 0 [])):=zh (by rw [Hf2.out];rfl);have d3:wv.cell? ⟨g+1,2,none⟩=some (.int .u8 23):=HOp1.out.cell rfl
     generalize zad l E (i+1) o [40] [41] 2=R at *
     have Hop:=zh d3;clear Hf2 HN HOp1 d3;go_wp2_with fail
     go_at_call 78;refine (HN1.out _ Hb1.out).mono ?_;rintro e3 w3 ⟨he3,hb3⟩;have d3:=Below.keep hb3 Hop.out;have hBx:=HBx1.out.below hb3 (zr _);obtain ⟨x0,x1,x2,x3⟩:=yc4 hBx;have f0:=hBx.free;have Hb3:=zh (Hb1.out.trans (hb3.mono Hb1.out.size));clear hBx hb3
     cases R with
     | err a c =>
      obtain ⟨rfl,hc,hal⟩:=he3;have Hc:=zh hc;clear hc;go_wp2_with fail
      refine yE (v:=.tuple #[.agg #[.int .u8 23,.int .i64 0,.string { data:=#[] },.slice none 0 0],.int .i64 a,.int .i64 c]) (by simp [results,Try.results114,go_sem,x0,x1,x2,x3]) rfl ⟨by rw [Hf3.out];exact ⟨_,_,_,_,_,_,rfl,Hc.out,hal⟩,?_⟩
      exact (((Hb3.out.setCell (zr _) _).setCell (zr _) _).setCell (zr _) _).setCell (zr _) _
     | ok xs j =>
      obtain ⟨v2,rfl,⟨cs,hown,hX⟩,hij,hjl⟩:=he3;replace hX:=hX.weak1;obtain ⟨a2,cap2,rfl,hc3,hc4⟩:=Sl.form (Sl.of_own hown);have HX:=zh hX;have Hown:=zh hown;clear hX hown;go_wp2_with fail
      refine yE (v:=.tuple #[.agg #[.int .u8 23,.int .i64 0,.string { data:=#[] },.slice a2 xs.length cap2],.int .i64 j,.int .i64 0]) (by simp [results,Try.results114,go_sem,x0,x1,x2,x3]) rfl ⟨?_,(((Hb3.out.setCell (zr _) _).setCell (zr _) _).setCell (zr _) _).setCell (zr _) _⟩;rw [Hf3.out];refine ⟨_,rfl,⟨_,rfl,?_⟩,by omega,hjl⟩;have hP:¬ w.heap.size+2<=w.heap.size:=by omega
      have h1:ExsC w3 (fun g=>w.heap.size+2<=g) [.mk 23 0 [] xs] [.int .u8 23,.int .i64 0,.string (bstr []),.slice a2 xs.length cap2]:=
       ExsC.cons (op:=23) (n:=0) (name:=[]) (Sl.of_own Hown.out) (.inr fun g hg=>yT hszv (zck Hown.out g hg)) (HX.out.weak fun g _ h=>yT hszv h) ExsC.nil
      exact ((((h1.set hP).set hP).set hP).set hP).weak fun g _ h=>by omega
    ·have HN1:=zh (HN.out 2 (by omega) (by omega));have Hf3:Hid (final=(zad l E (i+1) o [40] [41] 2).map (.mk 24 0 [])):=zh (by rw [Hf2.out];rfl);have d3:wv.cell? ⟨g+1,3,none⟩=some (.int .u8 24):=HOp1.out.cell rfl
     generalize zad l E (i+1) o [40] [41] 2=R at *
     have Hop:=zh d3;clear Hf2 HN HOp1 d3;go_wp2_with fail
     go_at_call 78;refine (HN1.out _ Hb1.out).mono ?_;rintro e3 w3 ⟨he3,hb3⟩;have d3:=Below.keep hb3 Hop.out;have hBx:=HBx1.out.below hb3 (zr _);obtain ⟨x0,x1,x2,x3⟩:=yc4 hBx;have f0:=hBx.free;have Hb3:=zh (Hb1.out.trans (hb3.mono Hb1.out.size));clear hBx hb3
     cases R with
     | err a c =>
      obtain ⟨rfl,hc,hal⟩:=he3;have Hc:=zh hc;clear hc;go_wp2_with fail
      refine yE (v:=.tuple #[.agg #[.int .u8 24,.int .i64 0,.string { data:=#[] },.slice none 0 0],.int .i64 a,.int .i64 c]) (by simp [results,Try.results114,go_sem,x0,x1,x2,x3]) rfl ⟨by rw [Hf3.out];exact ⟨_,_,_,_,_,_,rfl,Hc.out,hal⟩,?_⟩
      exact (((Hb3.out.setCell (zr _) _).setCell (zr _) _).setCell (zr _) _).setCell (zr _) _
     | ok xs j =>
      obtain ⟨v2,rfl,⟨cs,hown,hX⟩,hij,hjl⟩:=he3;replace hX:=hX.weak1;obtain ⟨a2,cap2,rfl,hc3,hc4⟩:=Sl.form (Sl.of_own hown);have HX:=zh hX;have Hown:=zh hown;clear hX hown;go_wp2_with fail
      refine yE (v:=.tuple #[.agg #[.int .u8 24,.int .i64 0,.string { data:=#[] },.slice a2 xs.length cap2],.int .i64 j,.int .i64 0]) (by simp [results,Try.results114,go_sem,x0,x1,x2,x3]) rfl ⟨?_,(((Hb3.out.setCell (zr _) _).setCell (zr _) _).setCell (zr _) _).setCell (zr _) _⟩;rw [Hf3.out];refine ⟨_,rfl,⟨_,rfl,?_⟩,by omega,hjl⟩;have hP:¬ w.heap.size+2<=w.heap.size:=by omega
      have h1:ExsC w3 (fun g=>w.heap.size+2<=g) [.mk 24 0 [] xs] [.int .u8 24,.int .i64 0,.string (bstr []),.slice a2 xs.length cap2]:=
       ExsC.cons (op:=24) (n:=0) (name:=[]) (Sl.of_own Hown.out) (.inr fun g hg=>yT hszv (zck Hown.out g hg)) (HX.out.weak fun g _ h=>yT hszv h) ExsC.nil
      exact ((((h1.set hP).set hP).set hP).set hP).weak fun g _ h=>by omega
  ·obtain rfl:k=4:=by omega
   have Hf2:Hid (final=if S=[116,105,99,107] then .ok (.mk 4 0 [] []) (i+1) else if S=[115,101,108,102] then .ok (.mk 5 0 [] []) (i+1) else if zaP S=false then .err i 120 else .ok (.mk 2 0 S []) (i+1)):=zh (by
    have:zai S (callWords.drop 0) 0=0:=by rw [Hk.out];exact zdq (by decide)
    rw [Hf.out,this,yN (by decide)])
   obtain ⟨q1,hq1⟩:∃ q,decide (S=[116,105,99,107])=q:=⟨_,rfl⟩;obtain ⟨q2,hq2⟩:∃ q,decide (S=[115,101,108,102])=q:=⟨_,rfl⟩;have e1:=zal S [116,105,99,107];have e2:=zal S [115,101,108,102];rw [hq1] at e1;rw [hq2] at e2;obtain ⟨x0,x1,x2,x3⟩:=yc4 HBx.out;have f0:=HBx.out.free;clear Hf Hk HWd HOp;cases q1
   ·rw [decide_eq_false_iff_not] at hq1;cases q2
    ·rw [decide_eq_false_iff_not] at hq2;obtain ⟨q3,hq3⟩:∃ q,zaP S=q:=⟨_,rfl⟩;rw [hq3] at HNm;have Hf3:Hid (final=if q3=false then .err i 120 else .ok (.mk 2 0 S []) (i+1)):=zh (by rw [Hf2.out,yN hq1,yN hq2,hq3]);clear Hf2 hq1 hq2 hq3;cases q3
     ·go_wp2_with fail
      go_at_call 68;refine (HNm.out _).mono ?_;rintro e3 w3 ⟨rfl,hb3⟩;have hBx:=HBx.out.below hb3 (zr _);obtain ⟨y0,y1,y2,y3⟩:=yc4 hBx;have g0:=hBx.free;have Hb3:=zh (Hb.out.trans (hb3.mono Hb.out.size));clear hBx hb3;go_wp2_with fail
      refine yE (v:=.tuple #[.agg #[.int .u8 0,.int .i64 0,.string { data:=#[] },.slice none 0 0],.int .i64 i,.int .i64 120]) (by simp [results,Try.results114,go_sem,y0,y1,y2,y3]) rfl ⟨by rw [Hf3.out];exact ⟨_,_,_,_,_,_,rfl,.inl rfl,hi⟩,?_⟩;exact (((Hb3.out.setCell (zr _) _).setCell (zr _) _).setCell (zr _) _).setCell (zr _) _
     ·go_wp2_with fail
      go_at_call 68;refine (HNm.out _).mono ?_;rintro e3 w3 ⟨rfl,hb3⟩;have hBx:=HBx.out.below hb3 (zr _);obtain ⟨y0,y1,y2,y3⟩:=yc4 hBx;have g0:=hBx.free;have z1:=(HTk.out.below hb3 (zr _)).cell (i:=1) rfl;have Hb3:=zh (Hb.out.trans (hb3.mono Hb.out.size));clear hBx hb3;go_wp2_with fail
      refine yE (v:=.tuple #[.agg #[.int .u8 2,.int .i64 0,.string (bstr S),.slice none 0 0],.int .i64 ((i:Int)+1),.int .i64 0]) (by simp [results,Try.results114,go_sem,y0,y1,y2,y3]) rfl ⟨by rw [Hf3.out];exact ⟨_,rfl,zcx,by omega,hn⟩,?_⟩;exact (((Hb3.out.setCell (zr _) _).setCell (zr _) _).setCell (zr _) _).setCell (zr _) _
    ·rw [yQ] at hq2;have Hf3:Hid (final=.ok (.mk 5 0 [] []) (i+1)):=zh (by rw [Hf2.out,yN hq1,yP hq2]);clear Hf2 hq1 hq2;go_wp2_with fail
     refine yE (v:=.tuple #[.agg #[.int .u8 5,.int .i64 0,.string { data:=#[] },.slice none 0 0],.int .i64 ((i:Int)+1),.int .i64 0]) (by simp [results,Try.results114,go_sem,x0,x1,x2,x3]) rfl ⟨by rw [Hf3.out];exact ⟨_,rfl,zcx,by omega,hn⟩,?_⟩;exact (((Hb.out.setCell (zr _) _).setCell (zr _) _).setCell (zr _) _).setCell (zr _) _
   ·rw [yQ] at hq1;have Hf3:Hid (final=.ok (.mk 4 0 [] []) (i+1)):=zh (by rw [Hf2.out,yP hq1]);clear Hf2 hq1;go_wp2_with fail
    refine yE (v:=.tuple #[.agg #[.int .u8 4,.int .i64 0,.string { data:=#[] },.slice none 0 0],.int .i64 ((i:Int)+1),.int .i64 0]) (by simp [results,Try.results114,go_sem,x0,x1,x2,x3]) rfl ⟨by rw [Hf3.out];exact ⟨_,rfl,zcx,by omega,hn⟩,?_⟩;exact (((Hb.out.setCell (zr _) _).setCell (zr _) _).setCell (zr _) _).setCell (zr _) _
theorem zjl (l:List Tok) (E:Nat->Nat->Nat->PR Ex) (v:Value) (i o:Nat) (w:World) (hE:ExprC l E i) (hT:Toks w l v) (hG:Good l) (hi:i < l.length) (hm:l.length<=4611686018427387904) (ho:o<=300) :
  Calls Try.prog 114 #[v,.int .i64 i,.int .i64 o] w fun e w'=>zb4 l i w w' e (zah l E i o)/\Below w.heap.size w w':=by
 by_cases hk:(zaa l i).kind=2
 ·exact zji l E v i o w hT hG hi hm hk
 ·have hk':((zaa l i).kind == 2)=false:=by simpa using hk
  by_cases hp:isS l i [40]=true
  ·exact zjj l E v i o w hE hT hG hi hm ho hk' hp
  ·have hp':isS l i [40]=false:=by simpa using hp
   by_cases hk1:(zaa l i).kind=1
   ·by_cases hK:0 < zap (zaa l i).text
    ·exact ziG l E v i o w hE hT hG hi hm ho hk1 hp' hK
    ·exact ziH l E v i o w hE hT hG hi hm ho hk1 hp' hK
   ·exact zjk l E v i o w hT hi hm hk' (by simpa using hk1) hp'
theorem zcT {l:List Tok} {i:Nat} {s:List UInt8} (h:isS l i s=true):(zaa l i).kind≠4/\(zaa l i).text=s:=by
 unfold isS at h;simpa [yC] using h
theorem zgA {l:List Tok} {i o:Nat} {s:List UInt8} (h:isS l i s=true):zay l i s o=if 200<=o then .err i 121 else .ok () (i+1):=by
 unfold zay;rw [h,yN (by decide)]
theorem zb7 {w:World} {g:Nat} {e:TypeId} {cs:List Value} (h:OwnV w g e cs) {sz n cap:Nat} (hl:cs.length=n * sz) (hn:n<=cap) (hm:cap<=9223372036854775807):Sl w sz n cs (.slice (some ⟨g,0,none⟩) n cap):=by
 refine ⟨_,_,rfl,hn,hm,hl,fun _=>⟨g,0,rfl,fun j hj=>?_⟩⟩;rw [Nat.zero_add,yD (by omega)];exact h.cell (yD _)
theorem znv {w2 W3:World} {B g2 m:Nat} {op:Int} {xs:List Ex} {cs:List Value} (hlow:Below w2.heap.size w2 W3) (hO:OwnV W3 g2 65 cs) (hX:ExsC w2 (fun g=>m<=g) xs cs) (hm:B+1<=m) (hg:B+1<=g2) (hlen:xs.length<=1000) {v0 v1 v2 v3:Value} :
  ExsC ((((W3.setCell ⟨B,0,none⟩ v0).setCell ⟨B,1,none⟩ v1).setCell ⟨B,2,none⟩ v2).setCell ⟨B,3,none⟩ v3) (fun g=>B<=g) [.mk op 0 [] xs] [.int .u8 op,.int .i64 0,.string { data:=#[] },.slice (some ⟨g2,0,none⟩) xs.length xs.length]:=by
 have hP:¬ B+1<=B:=by omega
 have h1:ExsC W3 (fun g=>B+1<=g) [.mk op 0 [] xs] [.int .u8 op,.int .i64 0,.string (bstr []),.slice (some ⟨g2,0,none⟩) xs.length xs.length]:=
  ExsC.cons (zb7 hO hX.len (zr _) (by omega)) (.inr fun g h=>by cases h;exact hg) ((hX.under hlow (zr _)).weak fun g _ h=>yT hm h) ExsC.nil
 exact ((((h1.set hP).set hP).set hP).set hP).weak fun g _ h=>by omega
theorem zlO (l:List Tok) (E:Nat->Nat->Nat->PR Ex) (v:Value) (hG:Good l) (hm:l.length<=4611686018427387904):∀ (f i o:Nat) (w:World),l.length - i < f->ExprC l E i->Toks w l v->i < l.length->o<=300 ->
    Calls Try.prog 107 #[v,.int .i64 i,.int .i64 o] w fun e w'=>zb4 l i w w' e (zas l E f i o)/\Below w.heap.size w w':=by
  intro f
  induction f with
  | zero=>intro i o w h;omega
  | succ f ih =>
  intro i o w hf hE hT hi ho;obtain ⟨q1,hq1⟩:∃ q,isS l i [45]=q:=⟨_,rfl⟩;obtain ⟨q2,hq2⟩:∃ q,isS l i [33]=q:=⟨_,rfl⟩;have HI1:Hid (∀ w',Below w.heap.size w w'->Calls Try.prog 80 #[v,.int .i64 i,.string { data:=#[45] }] w' fun e w''=>e=.returned (.bool q1)/\w'=w''):=zbO hT hi hq1;have HI2:Hid (∀ w',Below w.heap.size w w'->Calls Try.prog 80 #[v,.int .i64 i,.string { data:=#[33] }] w' fun e w''=>e=.returned (.bool q2)/\w'=w''):=zbO hT hi hq2;have HO:Hid (∀ w',Below w.heap.size w w'->_):=zh (fun (w':World) (hb:Below w.heap.size w w')=>zjl l E v i o w' hE (Sl.below (by omega) hT hb (zr _)) hG hi hm ho);have HF:Hid (zas l E (f+1) i o=if q1=false/\q2=false then zah l E i o else if 200<=o then .err i 121 else (zas l E f (i+1) (o+1)).map fun x=>.mk (if q2=true then 8 else 7) 0 [] [x]):=zh (by rw [zas,hq1,hq2]);have hHw:=OwnV.new w 65 zeroE;have hbW:Below w.heap.size w (w.alloc (.cells zeroE.toArray 65)):=(yR _ _).alloc (zr _) _;obtain ⟨W0,hW0⟩:∃ W0,W0=w.alloc (.cells zeroE.toArray 65):=⟨_,rfl⟩;rw [<- hW0] at hHw hbW;simp only [zeroE] at hW0;have HBx:=zh hHw;have Hb0:=zh hbW;have hsz:w.heap.size < W0.heap.size:=hHw.lt;by_cases hc:q1=false/\q2=false
  · rw [HF.out,yP hc]
    obtain ⟨rfl,rfl⟩:=hc;obtain ⟨a,cap,rfl,hc1,hc2⟩:=Sl.form hT;have hi1:(i:Int) < l.length:=by omega
    clear HF hHw hbW ih hE hT hq1 hq2
    generalize zah l E i o=R at *
    go_enter Try.func107,Try.ntmps107
    go_wp2_with fail
    rw [<- hW0];clear hW0;go_at_call 80;refine (HI1.out _ Hb0.out).mono ?_;rintro e1 w1 ⟨rfl,rfl⟩;go_wp2_with fail
    go_at_call 80;refine (HI2.out _ Hb0.out).mono ?_;rintro e1 w1 ⟨rfl,rfl⟩;go_wp2_with fail
    go_at_call 114;refine (HO.out _ Hb0.out).mono ?_;rintro e2 w2 ⟨he2,hb2⟩;have hBx:=HBx.out.below hb2 (zr _);obtain ⟨x0,x1,x2,x3⟩:=yc4 hBx;have f0:=hBx.free;have Hb2:=zh (Hb0.out.trans (hb2.mono Hb0.out.size));clear hBx hb2
    cases R with
    | err a c =>
      obtain ⟨op,n,nm,ad,m,cp,rfl,hc,hal⟩:=he2;have Hc:=zh hc;clear hc;go_wp2_with fail
      refine yE (v:=.tuple #[.agg #[.int .u8 op,.int .i64 n,.string nm,.slice ad m cp],.int .i64 a,.int .i64 c]) (by simp [results,Try.results107,go_sem,x0,x1,x2,x3]) rfl ⟨⟨_,_,_,_,_,_,rfl,Hc.out,hal⟩,?_⟩
      exact (((Hb2.out.setCell (zr _) _).setCell (zr _) _).setCell (zr _) _).setCell (zr _) _
    | ok x j =>
      obtain ⟨v2,rfl,⟨cs,rfl,hX⟩,hij,hjl⟩:=he2;obtain ⟨op,n,name,args,aa,acap,rfl,rfl⟩:=hX.one;have HX:=zh hX;clear hX;go_wp2_with fail
      refine yE (v:=.tuple #[.agg #[.int .u8 op,.int .i64 n,.string (bstr name),.slice aa args.length acap],.int .i64 j,.int .i64 0]) (by simp [results,Try.results107,go_sem,x0,x1,x2,x3]) rfl ⟨⟨_,rfl,⟨_,rfl,?_⟩,hij,hjl⟩,(((Hb2.out.setCell (zr _) _).setCell (zr _) _).setCell (zr _) _).setCell (zr _) _⟩;have hP:¬ W0.heap.size<=w.heap.size:=by omega
      exact ((((HX.out.set hP).set hP).set hP).set hP).weak fun g _ h=>by omega
  · have HF2:Hid (zas l E (f+1) i o=if 200<=o then .err i 121 else (zas l E f (i+1) (o+1)).map fun x=>.mk (if q2=true then 8 else 7) 0 [] [x]):=zh (by rw [HF.out,yN hc])
    have hself:isS l i (zaa l i).text=true:=by
      cases hx1:q1 with
      | true=>rw [hx1] at hq1;rw [(zcT hq1).2];exact hq1
      | false =>
        cases hx2:q2 with
        | true=>rw [hx2] at hq2;rw [(zcT hq2).2];exact hq2
        | false=>exact absurd ⟨hx1,hx2⟩ hc
    have hno:¬ (q1=true/\q2=true):=by
      rintro ⟨rfl,rfl⟩;have h1:=(zcT hq1).2;rw [(zcT hq2).2] at h1;cases h1
    have hn:=hG.is_next hi hself;have HEn:Hid (∀ w',Below w.heap.size w w'->_):=zh (fun (w':World) (hb:Below w.heap.size w w')=>zd8 l v i (zaa l i).text o w' (Sl.below (by omega) hT hb (zr _)) hi hm);rw [zgA hself] at HEn;have HU:Hid (o < 200->∀ w',Below w.heap.size w w'->_):=zh (fun (ho:o < 200) (w':World) (hb:Below w.heap.size w w')=>ih (i+1) (o+1) w' (by omega) (hE.mono (by omega)) (Sl.below (by omega) hT hb (zr _)) hn (by omega));obtain ⟨a,cap,rfl,hc1,hc2⟩:=Sl.form hT;obtain ⟨b,off,rfl,c0,c1,c2,c3,c4⟩:=zaF hT hi;have hi1:(i:Int) < l.length:=by omega
    have hi2:(i:Int)<=4611686018427387904:=by omega
    have C1:=zh (Below.keep hbW c1)
    generalize zas l E (f+1) i o=final at *
    clear HF hHw hbW ih hE hT hself c0 c1 c2 c3 c4 HO
    generalize zas l E f (i+1) (o+1)=R at *
    generalize (zaa l i).text=S at *
    go_enter Try.func107,Try.ntmps107
    go_wp2_with fail
    rw [<- hW0];clear hW0 hq1 hq2;go_at_call 80;refine (HI1.out _ Hb0.out).mono ?_;rintro e1 w1 ⟨rfl,rfl⟩;have c1:=C1.out;rcases (show (q1=true/\q2=false)∨(q1=false/\q2=true) by cases q1 <;> cases q2 <;> simp at hc hno ⊢) with ⟨rfl,rfl⟩ | ⟨rfl,rfl⟩
    all_goals
      clear hc hno;go_wp2_with fail
      go_at_call 80;refine (HI2.out _ Hb0.out).mono ?_;rintro e1 w1 ⟨rfl,rfl⟩;by_cases ho2:200<=o
      · rw [yP ho2] at HEn
        unfold zcE at HEn;have Hf:=HF2.out;rw [yP ho2] at Hf;have Hf3:=zh Hf;clear Hf;obtain ⟨x0,x1,x2,x3⟩:=yc4 HBx.out;have f0:=HBx.out.free;go_wp2_with fail
        go_at_call 94;refine (HEn.out _ Hb0.out).mono ?_;rintro e1 w1 ⟨rfl,rfl⟩;go_wp2_with fail
        refine yE (v:=.tuple #[.agg #[.int .u8 0,.int .i64 0,.string { data:=#[] },.slice none 0 0],.int .i64 i,.int .i64 121]) (by simp [results,Try.results107,go_sem,x0,x1,x2,x3]) rfl ⟨by rw [Hf3.out];exact ⟨_,_,_,_,_,_,rfl,.inr rfl,hi⟩,?_⟩;exact (((Hb0.out.setCell (zr _) _).setCell (zr _) _).setCell (zr _) _).setCell (zr _) _
      · rw [yN ho2] at HEn
        unfold zcE at HEn;have Hf:=HF2.out;rw [yN ho2] at Hf;have Hf3:=zh Hf;clear Hf;have HU2:=zh (HU.out (by omega));go_wp2_with fail
        go_at_call 94;refine (HEn.out _ Hb0.out).mono ?_;rintro e1 w1 ⟨rfl,rfl⟩;go_wp2_with fail
        go_at_call 107;refine (HU2.out _ Hb0.out).mono ?_;rintro e2 w2 ⟨he2,hb2⟩;have HBx2:=zh (HBx.out.below hb2 (zr _));have hle2:w.heap.size+1<=w2.heap.size:=by have:=hb2.size;omega
        have Hb2:=zh (Hb0.out.trans (hb2.mono Hb0.out.size));clear hb2
        cases R with
        | err a c =>
          obtain ⟨op,n,nm,ad,m,cp,rfl,hc,hal⟩:=he2;have Hc:=zh hc;have hc0:(c != 0)=true:=by rcases hc with rfl | rfl <;> rfl
          have hBx:=HBx2.out.alloc (.cells #[.int .u8 op,.int .i64 n,.string nm,.slice ad m cp] 65);obtain ⟨x0,x1,x2,x3⟩:=yc4 hBx;have f0:=hBx.free;clear hc hBx;go_wp2_with fail
          refine yE (v:=.tuple #[.agg #[.int .u8 op,.int .i64 n,.string nm,.slice ad m cp],.int .i64 a,.int .i64 c]) (by simp [results,Try.results107,go_sem,x0,x1,x2,x3]) rfl ⟨by rw [Hf3.out];exact ⟨_,_,_,_,_,_,rfl,Hc.out,hal⟩,?_⟩
          exact ((((Hb2.out.alloc Hb2.out.size _).setCell (zr _) _).setCell (zr _) _).setCell (zr _) _).setCell (zr _) _
        | ok x j =>
          obtain ⟨v2,rfl,⟨cs,rfl,hX⟩,hij,hjl⟩:=he2;obtain ⟨op,n,name,args,aa,acap,rfl,rfl⟩:=hX.one;have HX:=zh hX;clear hX;obtain ⟨W3,hW3,hb3,hA,hB,hsz3⟩:=opened w2 [.int .u8 op,.int .i64 n,.string (bstr name),.slice aa args.length acap] [.int .u8 op,.int .i64 n,.string (bstr name),.slice aa args.length acap] 65 65;have hBx:=HBx2.out.below hb3 (zr _);obtain ⟨x0,x1,x2,x3⟩:=yc4 hBx;have f0:=hBx.free;rw [hW3] at x0 x1 x2 x3 f0;have HB:=zh hB;have Hb3:=zh hb3;have HW3:=zh hW3;clear hBx hA hB hb3 hW3;go_wp2_with fail
          first
            | (refine yE (v:=.tuple #[.agg #[.int .u8 7,.int .i64 0,.string { data:=#[] },.slice (some ⟨w2.heap.size+1,0,none⟩) 1 1],.int .i64 j,.int .i64 0]) ?_ rfl ⟨?_,?_⟩;· (simp [results,Try.results107,go_sem,x0,x1,x2,x3];done))
            | (refine yE (v:=.tuple #[.agg #[.int .u8 8,.int .i64 0,.string { data:=#[] },.slice (some ⟨w2.heap.size+1,0,none⟩) 1 1],.int .i64 j,.int .i64 0]) ?_ rfl ⟨?_,?_⟩;· (simp [results,Try.results107,go_sem,x0,x1,x2,x3];done))
          · rw [Hf3.out,<- HW3.out]
            exact ⟨_,rfl,⟨_,rfl,znv Hb3.out HB.out HX.out (by omega) (by omega) (by simp)⟩,by omega,hjl⟩
          · rw [<- HW3.out]
            exact ((((Hb2.out.trans (Hb3.out.mono Hb2.out.size)).setCell (zr _) _).setCell (zr _) _).setCell (zr _) _).setCell (zr _) _
theorem zaY (w:World) (b o:Nat) (v:Value):w.grownBy (w.setCell ⟨b,o,none⟩ v) (some b):=
 ⟨rfl,rfl,rfl,by have:=((yR 0 w).setCell (p:=⟨b,o,none⟩) (Nat.zero_le _) v).size;exact this,fun k _ hne=>Below.heap_setCell w _ v k (fun e=>hne (by rw [e]))⟩
theorem zbc {a b c:World} {r:Option Nat} (h:a.grownBy b r) (k:b.grownBy c r):a.grownBy c r:=
 ⟨k.os.trans h.os,k.tape.trans h.tape,k.output.trans h.output,yT h.size k.size,fun i hi hne=>(k.block i (by have:=h.size;omega) hne).trans (h.block i hi hne)⟩
theorem set4 {W:World} {g:Nat} {e:TypeId} {a b c d:Value} (h:OwnV W g e [a,b,c,d]) (v0 v1 v2 v3:Value) :
  ∃ W',W'=(((W.setCell ⟨g,0,none⟩ v0).setCell ⟨g,1,none⟩ v1).setCell ⟨g,2,none⟩ v2).setCell ⟨g,3,none⟩ v3/\OwnV W' g e [v0,v1,v2,v3]/\W.grownBy W' (some g):=
 ⟨_,rfl,(((h.set 0 v0).set 1 v1).set 2 v2).set 3 v3,zbc (zbc (zbc (zaY _ _ _ _) (zaY _ _ _ _)) (zaY _ _ _ _)) (zaY _ _ _ _)⟩
theorem zbz {a b:World} {g B:Nat} (h:a.grownBy b (some g)) (hB:B<=g) (hs:B<=a.heap.size):Below B a b:=⟨h.os,h.tape,h.output,h.size,fun k hk=>h.block k (by omega) (fun e=>by cases e;omega)⟩
theorem zlP (n:Nat):strongs.getD n 0<=5:=by
 have:∀ j:Fin 14,strongs.getD j.val 0<=5:=by decide
 by_cases h:n < 14
 ·exact this ⟨n,h⟩
 ·rw [List.getD_eq_getElem?_getD,List.getElem?_eq_none (by show 14<=n;omega)];exact Nat.zero_le _
theorem zlQ (t:Tok):zcf t<=13:=by
 have key:∀ (l:List (List UInt8)) (k:Nat),zai t.text l k<=l.length+k:=by
  intro l
  induction l with
  | nil=>intro k;exact Nat.zero_le _
  | cons x l ih =>
   intro k;rw [zai,yB];split
   ·omega
   ·have:=ih (k+1);omega
 unfold zcf;split
 ·exact key signWords 0
 ·exact Nat.zero_le _
theorem zjJ {w4 W5 W6:World} {bx g2 m:Nat} {op:Int} {xs:List Ex} {cs:List Value} (hlow:Below w4.heap.size w4 W5) (hO:OwnV W5 g2 65 cs) (hX:ExsC w4 (fun g=>m<=g/\g≠bx) xs cs) (hg:m<=g2) (hne:g2≠bx) (hlen:xs.length<=1000) (hgr:W5.grownBy W6 (some bx)) :
  ExsC W6 (fun g=>m<=g/\g≠bx) [.mk op 0 [] xs] [.int .u8 op,.int .i64 0,.string { data:=#[] },.slice (some ⟨g2,0,none⟩) xs.length xs.length]:=by
 have h1:ExsC W5 (fun g=>m<=g/\g≠bx) [.mk op 0 [] xs] [.int .u8 op,.int .i64 0,.string (bstr []),.slice (some ⟨g2,0,none⟩) xs.length xs.length]:=
  ExsC.cons (zb7 hO hX.len (zr _) (by omega)) (.inr fun g h=>by cases h;exact ⟨hg,hne⟩) (hX.under hlow (zr _)) ExsC.nil
 exact h1.grown hgr (fun g e h=>by cases e;exact h.2 rfl)
theorem zlR (l:List Tok) (E:Nat->Nat->Nat->PR Ex) (v:Value) (hG:Good l) (hm:l.length<=4611686018427387904) (i o least:Nat) (w:World) (hE:ExprC l E i) (hT:Toks w l v) (hi:i < l.length) (ho:o<=300) (_hle:least<=6) :
  Calls Try.prog 95 #[v,.int .i64 i,.int .i64 o,.int .i64 least] w fun e w'=>zb4 l i w w' e ((zas l E (l.length+1 - i) i o).andThen fun x j=>zaD l E (l.length+1 - j) x j o least)/\Below w.heap.size w w':=by
 have HU:Hid (∀ w',Below w.heap.size w w'->_):=zh (fun (w':World) (hb:Below w.heap.size w w')=>zlO l E v hG hm (l.length+1 - i) i o w' (by omega) hE (Sl.below (by omega) hT hb (zr _)) hi ho);have HT:=zh hT;have HE:=zh hE;obtain ⟨a,cap,rfl,hc1,hc2⟩:=Sl.form hT;have hHw:=OwnV.new w 65 zeroE;have hbW:Below w.heap.size w (w.alloc (.cells zeroE.toArray 65)):=(yR _ _).alloc (zr _) _;obtain ⟨W0,hW0⟩:∃ W0,W0=w.alloc (.cells zeroE.toArray 65):=⟨_,rfl⟩;rw [<- hW0] at hHw hbW;simp only [zeroE] at hW0;have HBx:=zh hHw;have Hb0:=zh hbW;have hsz:w.heap.size < W0.heap.size:=hHw.lt;have hi2:(i:Int)<=4611686018427387904:=by omega
 obtain ⟨final,hfin⟩:∃ r,((zas l E (l.length+1 - i) i o).andThen fun x j=>zaD l E (l.length+1 - j) x j o least)=r:=⟨_,rfl⟩;rw [hfin];have Hf:=zh hfin.symm;clear hfin;clear hT hE hHw hbW
 generalize zas l E (l.length+1 - i) i o=R at *
 go_enter Try.func95,Try.ntmps95
 go_wp2_with fail
 rw [<- hW0];clear hW0;go_at_call 107;refine (HU.out _ Hb0.out).mono ?_;rintro e1 w2 ⟨he2,hb2⟩;have HBx2:=zh (HBx.out.below hb2 (zr _));have hle2:w.heap.size+1<=w2.heap.size:=by have:=hb2.size;omega
 have Hb2:=zh (Hb0.out.trans (hb2.mono Hb0.out.size));clear hb2 HU HBx Hb0
 cases R with
 | err a2 c =>
  obtain ⟨op,n,nm,ad,m,cp,rfl,hc,hal⟩:=he2;have Hf3:Hid (final=.err a2 c):=zh Hf.out;have Hc:=zh hc;have hc0:(c != 0)=true:=by rcases hc with rfl | rfl <;> rfl
  have hBx:=HBx2.out.alloc (.cells #[.int .u8 op,.int .i64 n,.string nm,.slice ad m cp] 65);obtain ⟨x0,x1,x2,x3⟩:=yc4 hBx;have f0:=hBx.free;clear hc hBx;go_wp2_with fail
  refine yE (v:=.tuple #[.agg #[.int .u8 op,.int .i64 n,.string nm,.slice ad m cp],.int .i64 a2,.int .i64 c]) (by simp [results,Try.results95,go_sem,x0,x1,x2,x3]) rfl ⟨by rw [Hf3.out];exact ⟨_,_,_,_,_,_,rfl,Hc.out,hal⟩,?_⟩
  exact ((((Hb2.out.alloc Hb2.out.size _).setCell (zr _) _).setCell (zr _) _).setCell (zr _) _).setCell (zr _) _
 | ok x j =>
  obtain ⟨v2,rfl,⟨cs,rfl,hX⟩,hij,hjl⟩:=he2;have Hf3:Hid (final=zaD l E (l.length+1 - j) x j o least):=zh Hf.out;obtain ⟨op,n,name,args,aa,acap,rfl,rfl⟩:=hX.one;obtain ⟨bx,hbx⟩:∃ bx,bx=w2.heap.size:=⟨_,rfl⟩;have HXb:Hid (OwnV (w2.alloc (.cells [.int .u8 op,.int .i64 n,.string (bstr name),.slice aa args.length acap].toArray 65)) bx 65 [.int .u8 op,.int .i64 n,.string (bstr name),.slice aa args.length acap]):=zh (by rw [hbx];exact OwnV.new _ _ _);have HBx3:=zh (HBx2.out.alloc (.cells [.int .u8 op,.int .i64 n,.string (bstr name),.slice aa args.length acap].toArray 65));have Hb3:=zh (Hb2.out.alloc Hb2.out.size (.cells [.int .u8 op,.int .i64 n,.string (bstr name),.slice aa args.length acap].toArray 65));have HX3:Hid (ExsC (w2.alloc (.cells [.int .u8 op,.int .i64 n,.string (bstr name),.slice aa args.length acap].toArray 65)) (fun g=>w.heap.size+1<=g/\g≠bx) [.mk op n name args] [.int .u8 op,.int .i64 n,.string (bstr name),.slice aa args.length acap]):=zh ((hX.weak fun g hlt h=>⟨by omega,by omega⟩).under ((yR _ _).alloc (zr _) _) (zr _));have Hbx:=zh hbx;have hbx1:w.heap.size+1<=bx:=by omega
  clear hX HBx2 Hb2;go_wp2_with fail
  rw [<- hbx];clear hbx;go_loopw [1,9,10,13,14,15,16,17,18,19,33,34,35,36,37,38,39,40,41,42,43,44,45,46,47,48,49,50,51,52,53,54,55,56,57,58,59,60,61,62,63,64,65,66,67,68,69,70,71,72,73,74,75,76,77,78,79,80,81,82,83,84,85,86,87] (fun t1 _ _ _ _ _ _ _ _ _ _ _ _ _ _ _ _ _ _ _ _ _ _ _ _ _ _ _ _ _ _ _ _ _ _ _ _ _ _ _ _ _ _ _ _ _ _ _ _ _ _ _ _ _ _ _ _ _ _ _ _ _ _ _ _ wr=>∃ (j F:Nat) (op n:Int) (name:List UInt8) (args:List Ex) (aa:Option Addr) (acap:Nat),i < j/\j < l.length/\l.length - j < F/\t1=.int .i64 j/\Hid (OwnV wr bx 65 [.int .u8 op,.int .i64 n,.string (bstr name),.slice aa args.length acap])/\Hid (OwnV wr w.heap.size 65 zeroE)/\Hid (ExsC wr (fun g=>w.heap.size+1<=g/\g≠bx) [.mk op n name args] [.int .u8 op,.int .i64 n,.string (bstr name),.slice aa args.length acap])/\Hid (final=zaD l E F (.mk op n name args) j o least)/\Hid (Below w.heap.size w wr)) (fun t1 _ _ _ _ _ _ _ _ _ _ _ _ _ _ _ _ _ _ _ _ _ _ _ _ _ _ _ _ _ _ _ _ _ _ _ _ _ _ _ _ _ _ _ _ _ _ _ _ _ _ _ _ _ _ _ _ _ _ _ _ _ _ _ _ _=>l.length - (intOf t1).toNat)
  case atStart=>exact ⟨j,l.length+1 - j,op,n,name,args,aa,acap,hij,hjl,by omega,rfl,HXb,HBx3,HX3,Hf3,Hb3⟩
  case round =>
   clear HXb HBx3 HX3 Hf3 Hb3 hij hjl;obtain ⟨j,F,op,n,name,args,aa,acap,hij,hjl,hF,rfl,HXb,HBx,HX,Hf,Hb⟩:=hrel;have HT1:=zh (Sl.below (by omega) HT.out Hb.out (zr _));obtain ⟨b,off,rfl,c0,c1,c2,c3,c4⟩:=zaF HT1.out hjl;have hj1:(j:Int) < l.length:=by omega
   have HTw:Hid (∀ w:World,_):=zh (fun w:World=>zjI (zaa l j) w);obtain ⟨S,hS⟩:∃ S,zcf (zaa l j)=S:=⟨_,rfl⟩;have hS13:=zlQ (zaa l j);have hst:=zlP S;rw [hS] at HTw hS13;have Hsg:Hid (za3 l j=S):=zh hS;have Hsa:Hid (zaj l j=strongs.getD S 0):=zh (by show strongs.getD (za3 l j) 0=_;rw [Hsg.out]);have hS0:S≠0->((if S=0 then 0 else 9+S:Nat):Int)=9+S:=fun h=>by rw [yN h];omega
   have HS0:=zh hS0
   have Hn:Hid (strongs.getD S 0≠0->j+1 < l.length):=zh (fun h=>hG.next hjl (fun hk=>h (by
    have:zcf (zaa l j)=0:=by unfold zcf;rw [yN (by rw [hk];decide)]
    rw [<- hS,this];rfl)))
   have lt1:b < w.heap.size:=by
    obtain ⟨b',off',e,d0,-⟩:=zaF HT.out hjl;cases e;exact World.block_lt_of_cell? w _ d0
   have Hz:Hid (S=0->strongs.getD S 0=0):=zh (fun h=>by rw [h];rfl);unfold twoE at HTw
   generalize ((if S=0 then 0 else 9+S:Nat):Int)=OP at *
   generalize strongs.getD S 0=ST at *
   generalize zaa l j=T at *
   clear hS hS0;obtain ⟨F,rfl⟩:∃ F',F=F'+1:=⟨F - 1,by omega⟩;have Hf1:Hid (final=if ST < least∨ST=0 then .ok (.mk op n name args) j else (E (j+1) o (ST+1)).andThen fun y k=>if ST=3/\zaj l k=3 then .err k 120 else zaD l E F (.mk (9+S) 0 [] [.mk op n name args,y]) k o least):=zh (by rw [Hf.out,zaD,Hsa.out,Hsg.out]);clear Hf;go_wp2_with fail
   go_at_call 108;refine (HTw.out _).mono ?_;rintro e3 w3 ⟨rfl,hb3⟩;have HXb3:=zh (HXb.out.below hb3 (zr _));have HBx3:=zh (HBx.out.below hb3 (zr _));have HX3:=zh (HX.out.under hb3 (zr _));have Hb3:=zh (Hb.out.trans (hb3.mono Hb.out.size));have hbx3:bx < w3.heap.size:=HXb3.out.lt;clear hb3 HXb HBx HX Hb c0 c1 c2 c3 c4 HT1;by_cases hret:ST < least∨ST=0
   ·have Hf2:Hid (final=.ok (.mk op n name args) j):=zh (by rw [Hf1.out,yP hret]);obtain ⟨x0,x1,x2,x3⟩:=yc4 HBx3.out;have f0:=HBx3.out.free;obtain ⟨y0,y1,y2,y3⟩:=yc4 HXb3.out;have hP:¬ (w.heap.size+1<=w.heap.size/\w.heap.size≠bx):=by omega
    have HP:=zh hP;rcases (show (ST:Int) < least∨(¬ (ST:Int) < least/\((ST:Int) == 0)=true) by rw [beq_iff_eq];omega) with h1 | ⟨h1,h2⟩
    all_goals
     clear Hf1 hret hP;go_wp2_with fail
     refine yE (v:=.tuple #[.agg #[.int .u8 op,.int .i64 n,.string (bstr name),.slice aa args.length acap],.int .i64 j,.int .i64 0]) (by simp [results,Try.results95,go_sem,x0,x1,x2,x3]) rfl ⟨?_,(((Hb3.out.setCell (zr _) _).setCell (zr _) _).setCell (zr _) _).setCell (zr _) _⟩;rw [Hf2.out];exact ⟨_,rfl,⟨_,rfl,((((HX3.out.set HP.out).set HP.out).set HP.out).set HP.out).weak fun g _ h=>by omega⟩,hij,hjl⟩
   ·have Hf2:Hid (final=(E (j+1) o (ST+1)).andThen fun y k=>if ST=3/\zaj l k=3 then .err k 120 else zaD l E F (.mk (9+S) 0 [] [.mk op n name args,y]) k o least):=zh (by rw [Hf1.out,yN hret]);have h1:¬ (ST:Int) < least:=by omega
    have h2:((ST:Int) == 0)=false:=by rw [beq_eq_false_iff_ne];omega
    have hn2:=Hn.out (by omega);have hSne:S≠0:=fun h=>hret (.inr (Hz.out h))
    have HOP:=zh (HS0.out hSne);have HE1:Hid (∀ w',Below w.heap.size w w'->Calls Try.prog 95 #[.slice (some ⟨b,off,none⟩) l.length cap,.int .i64 ((j:Int)+1),.int .i64 o,.int .i64 ((ST:Int)+1)] w' fun e w''=>zb4 l (j+1) w' w'' e (E (j+1) o (ST+1))/\Below w'.heap.size w' w''):=zh (fun w' hb=>HE.out (j+1) o (ST+1) _ w' (by omega) hn2 ho (by omega) (Sl.below (by omega) HT.out hb (zr _)));clear Hf1 hret HS0 Hz Hn
    generalize E (j+1) o (ST+1)=R2 at *
    go_wp2_with fail
    go_at_call 95;refine (HE1.out _ Hb3.out).mono ?_;rintro e4 w4 ⟨he4,hb4⟩;have HXb4:=zh (HXb3.out.below hb4 (zr _));have HBx4:=zh (HBx3.out.below hb4 (zr _));have HX4:=zh (HX3.out.under hb4 (zr _));have Hb4:=zh (Hb3.out.trans (hb4.mono Hb3.out.size));have hbx4:bx < w4.heap.size:=HXb4.out.lt;have hle34:=hb4.size;clear hb4 HXb3 HBx3 HX3 Hb3 HE1
    cases R2 with
    | err a2 c =>
     obtain ⟨op1,n1,nm1,ad1,m1,cp1,rfl,hc,hal⟩:=he4;have Hf3:Hid (final=.err a2 c):=zh Hf2.out;have Hc:=zh hc;have hc0:(c != 0)=true:=by rcases hc with rfl | rfl <;> rfl
     have hBx:=HBx4.out.alloc (.cells #[.int .u8 op1,.int .i64 n1,.string nm1,.slice ad1 m1 cp1] 65);obtain ⟨x0,x1,x2,x3⟩:=yc4 hBx;have f0:=hBx.free;clear hc hBx;go_wp2_with fail
     refine yE (v:=.tuple #[.agg #[.int .u8 op1,.int .i64 n1,.string nm1,.slice ad1 m1 cp1],.int .i64 a2,.int .i64 c]) (by simp [results,Try.results95,go_sem,x0,x1,x2,x3]) rfl ⟨by rw [Hf3.out];exact ⟨_,_,_,_,_,_,rfl,Hc.out,hal⟩,?_⟩
     exact ((((Hb4.out.alloc Hb4.out.size _).setCell (zr _) _).setCell (zr _) _).setCell (zr _) _).setCell (zr _) _
    | ok y j2 =>
     obtain ⟨v4,rfl,⟨cs4,rfl,hY⟩,hij2,hjl2⟩:=he4;obtain ⟨op2,n2,name2,args2,aa2,acap2,rfl,rfl⟩:=hY.one;have Hf3:Hid (final=if ST=3/\zaj l j2=3 then .err j2 120 else zaD l E F (.mk (9+S) 0 [] [.mk op n name args,.mk op2 n2 name2 args2]) j2 o least):=zh Hf2.out;obtain ⟨W5,hW5,hb5,-,hSl,hsz5⟩:=opened w4 [.int .u8 op2,.int .i64 n2,.string (bstr name2),.slice aa2 args2.length acap2] [.int .u8 op,.int .i64 n,.string (bstr name),.slice aa args.length acap,.int .u8 op2,.int .i64 n2,.string (bstr name2),.slice aa2 args2.length acap2] 65 65;have hXA:=HXb4.out.alloc (.cells #[.int .u8 op2,.int .i64 n2,.string (bstr name2),.slice aa2 args2.length acap2] 65);obtain ⟨z0,z1,z2,z3⟩:=yc4 hXA;have HXb5:=zh (HXb4.out.below hb5 (zr _));have HBx5:=zh (HBx4.out.below hb5 (zr _));have hX5:=HXb5.out;rw [hW5] at hX5;obtain ⟨u0,u1,u2,u3⟩:=yc4 hX5;have f0:=hX5.free;have HXY:Hid (ExsC w4 (fun g=>w.heap.size+1<=g/\g≠bx) [.mk op n name args,.mk op2 n2 name2 args2] [.int .u8 op,.int .i64 n,.string (bstr name),.slice aa args.length acap,.int .u8 op2,.int .i64 n2,.string (bstr name2),.slice aa2 args2.length acap2]):=zh (HX4.out.append (hY.weak fun g _ h=>⟨by omega,by omega⟩));have Hb5:=zh (Hb4.out.trans (hb5.mono Hb4.out.size));have Hlow5:=zh hb5;have HSl:=zh hSl;have HW5:=zh hW5;have hj2:(j2:Int) < l.length:=by omega
     have HTw2:Hid (∀ w:World,_):=zh (fun w:World=>zjI (zaa l j2) w);have Hsa2:Hid (zaj l j2=strongs.getD (zcf (zaa l j2)) 0):=zh rfl;unfold twoE at HTw2
     generalize ((if zcf (zaa l j2)=0 then 0 else 9+zcf (zaa l j2):Nat):Int)=OP2 at *
     generalize strongs.getD (zcf (zaa l j2)) 0=ST2 at *
     obtain ⟨T2,hT2⟩:∃ T2,zaa l j2=T2:=⟨_,rfl⟩;rw [hT2] at HTw2;have HT2:=zh hT2;clear hT2;have Hbx4:=zh hbx4;have Hbx3:=zh hbx3;have Hle34:=zh hle34;clear Hf2 hXA hX5 hY hb5 hSl hW5 hsz5 HBx4 HX4 hbx4 hbx3 hle34;go_upto_region 11 with (fail)
     rw [<- HW5.out];obtain ⟨W6,hW6,hX6,hg6⟩:=set4 HXb5.out (.int .u8 OP) (.int .i64 0) (.string { data:=#[] }) (.slice (some ⟨w4.heap.size+1,0,none⟩) 2 2);rw [<- hW6];have hP:¬ (w.heap.size+1<=w.heap.size/\w.heap.size≠bx):=by omega
     have HP:=zh hP
     have HX6:Hid (ExsC W6 (fun g=>w.heap.size+1<=g/\g≠bx) [.mk (9+S) 0 [] [.mk op n name args,.mk op2 n2 name2 args2]] [.int .u8 OP,.int .i64 0,.string { data:=#[] },.slice (some ⟨w4.heap.size+1,0,none⟩) 2 2]):=zh (by
      have:=zjJ (op:=9+(S:Int)) Hlow5.out HSl.out HXY.out (by have:=Hbx4.out;omega) (by have:=Hbx4.out;omega) (by simp) hg6;rw [HOP.out]
      exact this)
     have HXb6:=zh hX6;have HBx6:=zh (HBx5.out.grown hg6 (fun e=>by cases e;omega));have Hb6:=zh (Hb5.out.trans (zbz hg6 (by omega) Hb5.out.size));obtain ⟨b',off',eb,d0,d1,d2,d3,d4⟩:=zaF (Sl.below (by omega) HT.out Hb6.out (zr _)) hjl2;cases eb;rw [HT2.out] at d0 d1 d2 d3 d4;clear z0 z1 z2 z3 u0 u1 u2 u3 f0 hX6 hg6 hW6 HXb4 HXb5 HBx5 HXY Hb4 Hb5 Hlow5 HSl HW5 hP Hbx4 Hbx3 Hle34;go_wp2_with fail
     go_at_call 108;refine (HTw2.out _).mono ?_;rintro e7 w7 ⟨rfl,hb7⟩;have HXb7:=zh (HXb6.out.below hb7 (zr _));have HBx7:=zh (HBx6.out.below hb7 (zr _));have HX7:=zh (HX6.out.under hb7 (zr _));have Hb7:=zh (Hb6.out.trans (hb7.mono Hb6.out.size));clear hb7 HXb6 HBx6 HX6 Hb6 d0 d1 d2 d3 d4;by_cases hbad:ST=3/\ST2=3
     ·have Hf4:Hid (final=.err j2 120):=zh (by rw [Hf3.out,yP (by rw [Hsa2.out];exact hbad)]);have g1:((ST:Int) == 3)=true:=by rw [beq_iff_eq];omega
      have g2:((ST2:Int) == 3)=true:=by rw [beq_iff_eq];omega
      obtain ⟨x0,x1,x2,x3⟩:=yc4 HBx7.out;have f0:=HBx7.out.free;obtain ⟨y0,y1,y2,y3⟩:=yc4 HXb7.out;clear hbad;go_wp2_with fail
      refine yE (v:=.tuple #[.agg #[.int .u8 OP,.int .i64 0,.string { data:=#[] },.slice (some ⟨w4.heap.size+1,0,none⟩) 2 2],.int .i64 j2,.int .i64 120]) (by simp [results,Try.results95,go_sem,x0,x1,x2,x3]) rfl ⟨by rw [Hf4.out];exact ⟨_,_,_,_,_,_,rfl,.inl rfl,hjl2⟩,?_⟩;exact (((Hb7.out.setCell (zr _) _).setCell (zr _) _).setCell (zr _) _).setCell (zr _) _
     ·have Hf4:Hid (final=zaD l E F (.mk (9+S) 0 [] [.mk op n name args,.mk op2 n2 name2 args2]) j2 o least):=zh (by rw [Hf3.out,yN (by rw [Hsa2.out];exact hbad)])
      have HX8:Hid (OwnV w7 bx 65 [.int .u8 (9+S),.int .i64 0,.string (bstr []),.slice (some ⟨w4.heap.size+1,0,none⟩) [Ex.mk op n name args,Ex.mk op2 n2 name2 args2].length 2]/\ExsC w7 (fun g=>w.heap.size+1<=g/\g≠bx) [.mk (9+S) 0 [] [.mk op n name args,.mk op2 n2 name2 args2]] [.int .u8 (9+S),.int .i64 0,.string (bstr []),.slice (some ⟨w4.heap.size+1,0,none⟩) [Ex.mk op n name args,Ex.mk op2 n2 name2 args2].length 2]):=zh (by
       have h1:=HXb7.out;have h2:=HX7.out;rw [HOP.out] at h1 h2
       exact ⟨h1,h2⟩)
      rcases (show ((ST:Int) == 3)=false∨(((ST:Int) == 3)=true/\((ST2:Int) == 3)=false) by rw [beq_iff_eq,beq_eq_false_iff_ne,beq_eq_false_iff_ne];omega) with g1 | ⟨g1,g2⟩
      all_goals
       clear hbad;go_wp2_with fail
       go_roundw
       case rel=>exact ⟨j2,F,9+S,0,[],[.mk op n name args,.mk op2 n2 name2 args2],some ⟨w4.heap.size+1,0,none⟩,2,by omega,hjl2,by omega,rfl,zh HX8.out.1,HBx7,zh HX8.out.2,Hf4,Hb7⟩
       case measure=>simp [intOf];omega
theorem zkD (l:List Tok) (v:Value) (hG:Good l) (hm:l.length<=4611686018427387904):∀ (f i o least:Nat) (w:World),l.length - i < f->Toks w l v->i < l.length->o<=300->least<=6 ->
  Calls Try.prog 95 #[v,.int .i64 i,.int .i64 o,.int .i64 least] w fun e w'=>zb4 l i w w' e (zaw l f i o least)/\Below w.heap.size w w':=by
 intro f
 induction f generalizing v with
 | zero=>intro i o least w h;omega
 | succ f ih =>
  intro i o least w hf hT hi ho hle;rw [zaw];exact zlR l (zaw l f) v hG hm i o least w (fun k o least v w h1 h2 h3 h4 h5=>ih v k o least w (by omega) h5 h2 h3 h4) hT hi ho hle
theorem ziI (l:List Tok) (v:Value) (hG:Good l) (hm:l.length<=4611686018427387904) (i o least:Nat) (w:World) (hT:Toks w l v) (hi:i < l.length) (ho:o<=300) (hle:least<=6) :
  Calls Try.prog 95 #[v,.int .i64 i,.int .i64 o,.int .i64 least] w fun e w'=>zb4 l i w w' e (zaA l i o least)/\Below w.heap.size w w':=
 zkD l v hG hm _ i o least w (by omega) hT hi ho hle
end Go.Proofs.Ytdeneckmoejcfaa
