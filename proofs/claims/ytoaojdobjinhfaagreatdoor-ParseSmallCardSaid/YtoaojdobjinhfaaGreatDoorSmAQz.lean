/- ParseSmall: words, whole and changed, walked. -/
import Derived.Test.YtoaojdobjinhfaaGreatDoorSmMQz
set_option linter.unusedSimpArgs false
set_option linter.unusedVariables false
set_option maxRecDepth 100000
set_option maxHeartbeats 16000000
namespace Go.Proofs.YtoaojdobjinhfaaGreatDoor
open Go.RowKit
theorem words_any(w:World):Calls Tryz.prog 25 #[] w fun e w'=>(∃v,e=.returned v/\RowW w' 30 v)/\Below w.heap.size w w':=by
 go_enter Tryz.func25,Tryz.ntmps25
 go_wp2_with fail
 go_ret;exact⟨⟨_,rfl,RowW.lit w [⟨#[108,101,116]⟩,⟨#[105,102]⟩,⟨#[101,108,115,101]⟩,⟨#[119,104,105,108,101]⟩,⟨#[115,116,111,112]⟩,⟨#[102,97,105,108]⟩,⟨#[116,105,99,107]⟩,⟨#[115,101,108,102]⟩,⟨#[114,97,110,100]⟩,⟨#[109,105,110]⟩,⟨#[118,101,108]⟩,⟨#[120]⟩,⟨#[49]⟩,⟨#[61,61]⟩,⟨#[60]⟩,⟨#[38,38]⟩,⟨#[124,124]⟩,⟨#[43]⟩,⟨#[45]⟩,⟨#[42]⟩,⟨#[33]⟩,⟨#[61]⟩,⟨#[40]⟩,⟨#[41]⟩,⟨#[91]⟩,⟨#[93]⟩,⟨#[123]⟩,⟨#[125]⟩,⟨#[44]⟩,⟨#[59]⟩] _ 30 rfl (by decide) (by decide)⟩,(yR _ _).alloc (zr _) _⟩
def wholeL : List ByteArray := [{ data := #[108, 101, 116] }, { data := #[97] }, { data := #[61] }, { data := #[45] }, { data := #[51] }, { data := #[42] }, { data := #[40] }, { data := #[116, 105, 99, 107] }, { data := #[43] }, { data := #[115, 101, 108, 102] }, { data := #[41] }, { data := #[59] }, { data := #[119, 104, 105, 108, 101] }, { data := #[40] }, { data := #[97] }, { data := #[60] }, { data := #[49, 48] }, { data := #[38, 38] }, { data := #[33] }, { data := #[118, 97, 114, 115] }, { data := #[91] }, { data := #[48] }, { data := #[93] }, { data := #[41] }, { data := #[123] }, { data := #[97] }, { data := #[61] }, { data := #[109, 105, 110] }, { data := #[40] }, { data := #[97] }, { data := #[44] }, { data := #[114, 97, 110, 100] }, { data := #[40] }, { data := #[54] }, { data := #[41] }, { data := #[41] }, { data := #[37] }, { data := #[97, 98, 115] }, { data := #[40] }, { data := #[97] }, { data := #[41] }, { data := #[59] }, { data := #[105, 102] }, { data := #[40] }, { data := #[97] }, { data := #[61, 61] }, { data := #[50] }, { data := #[124, 124] }, { data := #[97] }, { data := #[41] }, { data := #[123] }, { data := #[118, 101, 108] }, { data := #[91] }, { data := #[97] }, { data := #[93] }, { data := #[61] }, { data := #[48] }, { data := #[59] }, { data := #[125] }, { data := #[101, 108, 115, 101] }, { data := #[105, 102] }, { data := #[40] }, { data := #[49] }, { data := #[41] }, { data := #[123] }, { data := #[115, 116, 111, 112] }, { data := #[59] }, { data := #[125] }, { data := #[101, 108, 115, 101] }, { data := #[123] }, { data := #[102, 97, 105, 108] }, { data := #[59] }, { data := #[125] }, { data := #[125] }]
theorem whole_any(w:World):Calls Tryz.prog 52 #[] w fun e w'=>(∃v,e=.returned v/\RowW w' 74 v)/\Below w.heap.size w w':=by
 go_enter Tryz.func52,Tryz.ntmps52
 go_wp2_with fail
 go_ret;exact⟨⟨_,rfl,RowW.lit w wholeL _ 74 rfl (by decide) (by decide)⟩,(yR _ _).alloc (zr _) _⟩
theorem changed_any {w:World} (L:Glob w):Calls Tryz.prog 26 #[] w (YesE w):=by
 have M:=L.size;have V:Hid (∀(W:World) (s:ByteArray),Below w.heap.size w W->s.size<=1000000->Calls Tryz.prog 14 #[.string s] W (YesE W)):=zh (fun W s hb hs=>zkY s (by omega) W (L.below hb M));clear L;go_enter Tryz.func26,Tryz.ntmps26
 go_wp2_with fail
 refine(whole_any w).mono ?_;rintro e1 w1⟨⟨v1,rfl,E⟩,G⟩;have d:=zh E;have l:=zh G;clear E G;go_wp2_with fail
 refine(words_any w1).mono ?_;rintro e2 w2⟨⟨v2,rfl,F⟩,v⟩;replace d:=zh (d.out.below v);have B:=zh F;have H:=zh (l.out.trans (v.mono l.out.size));clear F v l;obtain⟨S,T,C,rfl,-,-⟩:=d.out.at (by decide);obtain⟨b2,U,D,rfl,-,-⟩:=B.out.at (by decide);go_wp2_with fail
 go_loopw [0,3,4,5,6,7,10,11,12,13,14,15,16,17,18,19,20,21,22,23,24,25,26,27,28,29,30,31,32,33,34,35,36,37,38,39,40,41,42,43,44,45,46,47,48,49,50,51,52,53,54,55,56,57,58,59,60,61,62,63,64,65,66,67] (fun _ t3 _ _ _ _ _ _ _ _ _ _ _ _ _ _ _ _ _ _ _ _ _ _ _ _ _ _ _ _ _ _ _ _ _ _ _ _ _ _ _ _ _ _ _ _ _ _ _ _ _ _ _ _ _ _ _ _ _ _ _ _ _ _ wr=>∃i:Nat,i<=74/\t3=.int .i64 i/\Hid (RowW wr 74 (.slice (some ⟨S,T,none⟩) 74 C))/\Hid (RowW wr 30 (.slice (some ⟨b2,U,none⟩) 30 D))/\Hid (Below w.heap.size w wr)) (fun _ t3 _ _ _ _ _ _ _ _ _ _ _ _ _ _ _ _ _ _ _ _ _ _ _ _ _ _ _ _ _ _ _ _ _ _ _ _ _ _ _ _ _ _ _ _ _ _ _ _ _ _ _ _ _ _ _ _ _ _ _ _ _ _ _=>74-(intOf t3).toNat)
 case atStart=>exact⟨0,by omega,by first|rfl|go_num,d,B,H⟩
 case round =>
  obtain⟨i,hi,rfl,A,y,g⟩:=hrel;by_cases Y:i<74
  ·have N:(i:Int) < 74:=by omega
   go_wp2_with fail
   go_loopw [0,4,5,6,7,16,17,18,19,20,21,22,23,24,25,26,27,28,29,30,31,32,33,34,35,36,37,38,39,40,41,42,43,44,45,46,47,48,49,50,51,52,53,54,55,56,57,58,59,60,61,62,63,64,65,66,67] (fun _ t4 _ _ _ _ _ _ _ _ _ _ _ _ _ _ _ _ _ _ _ _ _ _ _ _ _ _ _ _ _ _ _ _ _ _ _ _ _ _ _ _ _ _ _ _ _ _ _ _ _ _ _ _ _ _ _ wr=>∃k:Int,-2<=k/\k<=30/\t4=.int .i64 k/\Hid (RowW wr 74 (.slice (some ⟨S,T,none⟩) 74 C))/\Hid (RowW wr 30 (.slice (some ⟨b2,U,none⟩) 30 D))/\Hid (Below w.heap.size w wr)) (fun _ t4 _ _ _ _ _ _ _ _ _ _ _ _ _ _ _ _ _ _ _ _ _ _ _ _ _ _ _ _ _ _ _ _ _ _ _ _ _ _ _ _ _ _ _ _ _ _ _ _ _ _ _ _ _ _ _ _=>(30-intOf t4).toNat)
   case atStart=>exact⟨-2,by omega,by omega,by first|rfl|go_num,A,y,g⟩
   case round =>
    obtain⟨k,Z,aa,rfl,A,y,g⟩:=hrel;obtain⟨R,rfl⟩:∃R:World,R=wr:=⟨_,rfl⟩;by_cases Q:k<30
    ·go_wp2_with fail
     go_loopw [5,6,7,22,23,24,25,26,27,28,29,30,31,32,33,34,35,36,37,38,39,40,41,42,43,44,45,46,47,48,49,50,51,52,53,54,55,56,57,58,59,60,61,62,63,64] (fun t5 t6 _ _ _ _ _ _ _ _ _ _ _ _ _ _ _ _ _ _ _ _ _ _ _ _ _ _ _ _ _ _ _ _ _ _ _ _ _ _ _ _ _ _ _ _ wr=>∃(j:Nat) (s:ByteArray),j<=74/\t6=.int .i64 j/\t5=.string s/\s.size<=32*j/\wr=R) (fun _ t6 _ _ _ _ _ _ _ _ _ _ _ _ _ _ _ _ _ _ _ _ _ _ _ _ _ _ _ _ _ _ _ _ _ _ _ _ _ _ _ _ _ _ _ _ _=>74-(intOf t6).toNat)
     case atStart=>exact⟨0,_,by omega,by first|rfl|go_num,rfl,by decide,rfl⟩
     case round =>
      obtain⟨j,s,hj,rfl,rfl,hs,rfl⟩:=hrel;by_cases P:j<74
      ·have O:(j:Int)<74:=by omega
       obtain⟨u,hu,c0⟩:=A.out.cell P;have su:u.size<=140737488355328:=by omega
       have ss:s.size<=140737488355328:=by omega
       have X:(j=i/\(k = -2∨k = -1∨0<=k))∨¬(j:Int)=(i:Int):=by omega
       rcases X with⟨rfl,rfl|rfl|hk⟩|ac
       ·go_wp2_with fail
        go_roundw
        case rel=>exact⟨j+1,s,by omega,by go_num,rfl,by omega,by first|rfl|trivial⟩
        case measure=>simp[intOf];omega
       ·go_wp2_with fail
        go_roundw
        case rel=>exact⟨j+1,_,by omega,by go_num,rfl,by simp only[Go.ByteArray.size_append',Go.ByteArray.size_mk',List.size_toArray,yB,yL];omega,by first|rfl|trivial⟩
        case measure=>simp[intOf];omega
       ·obtain⟨m,rfl⟩:∃m:Nat,k=(m:Int):=⟨k.toNat,by omega⟩;obtain⟨q,hq,c1⟩:=y.out.cell (k:=m) (by omega);have sq:q.size<=140737488355328:=by omega
        go_wp2_with fail
        go_roundw
        case rel=>exact⟨j+1,_,by omega,by go_num,rfl,by simp only[Go.ByteArray.size_append',Go.ByteArray.size_mk',List.size_toArray,yB,yL];omega,by first|rfl|trivial⟩
        case measure=>simp[intOf];omega
       ·go_wp2_with fail
        go_roundw
        case rel=>exact⟨j+1,_,by omega,by go_num,rfl,by simp only[Go.ByteArray.size_append',Go.ByteArray.size_mk',List.size_toArray,yB,yL];omega,by first|rfl|trivial⟩
        case measure=>simp[intOf];omega
      ·have O:¬(j:Int)<74:=by omega
       have z:=zh (V.out wr s g.out (by omega));go_wp2_with fail
       refine z.out.mono ?_;rintro e3 w3⟨rfl,f⟩;have K:=zh (A.out.below f);have J:=zh (y.out.below f);have I:=zh (g.out.trans (f.mono g.out.size));clear f z;go_wp2_with fail
       go_roundw
       case rel=>exact⟨k+1,by omega,by omega,by go_num,K,J,I⟩
       case measure=>simp[intOf];omega
    ·have ab:¬k<30:=Q;go_wp2_with fail
     go_roundw
     case rel=>exact⟨i+1,by omega,by go_num,A,y,g⟩
     case measure=>simp[intOf];omega
  ·have N:¬(i:Int)<74:=by omega
   go_wp2_with fail
   go_ret;exact⟨rfl,g.out⟩
end Go.Proofs.YtoaojdobjinhfaaGreatDoor
