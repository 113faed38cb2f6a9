/- ParseSmall: nested, walked. -/
import Derived.Test.YtoaojdobjinhfaaGreatDoorSmMQz
set_option linter.unusedSimpArgs false
set_option linter.unusedVariables false
set_option maxRecDepth 100000
set_option maxHeartbeats 16000000
namespace Go.Proofs.YtoaojdobjinhfaaGreatDoor
open Go.RowKit
theorem nested_any{w:World}(y:Glob w):Calls Tryz.prog 27 #[] w (YesE w):=by
 have m:=y.size;have J:Hid (∀(W:World) (s:ByteArray),Below w.heap.size w W->s.size<=1000000->Calls Tryz.prog 14 #[.string s] W (YesE W)):=zh (fun W s hb hs=>zkY s (by omega) W (y.below hb m));have K:Hid (∀(W:World) (s:ByteArray),Below w.heap.size w W->s.size<=1000000->Calls Tryz.prog 16 #[.string s] W (YesE W)):=zh (fun W s hb hs=>reads_any s (by omega) W (y.below hb m));clear y;go_enter Tryz.func27,Tryz.ntmps27
 go_wp2_with fail
 go_loopw [0,1,2,3,4,5,6,7,8,9,10,11,12,13,14,15,16,17,18,19,20,21,22,23,24,25,26,27,28,29,30,31,32,33,34,35,36,37,38,39,40,41,42,43,44,45,46,47,48,49,50,51,52,53,54,55,56,57,58,59,60,61,62,63,64,65,66,67,68,69,70,71,72,73,74,75,76,77,78,79,80,81,82,83,84,85,86,87,88,89,90,91,92,93,94,95,96,97,98,99,100,101,102,103,104,105,106,107,108,109,110,111] (fun _ t1 _ _ _ _ _ _ _ _ _ _ _ _ _ _ _ _ _ _ _ _ _ _ _ _ _ _ _ _ _ _ _ _ _ _ _ _ _ _ _ _ _ _ _ _ _ _ _ _ _ _ _ _ _ _ _ _ _ _ _ _ _ _ _ _ _ _ _ _ _ _ _ _ _ _ _ _ _ _ _ _ _ _ _ _ _ _ _ _ _ _ _ _ _ _ _ _ _ _ _ _ _ _ _ _ _ _ _ _ _ _ wr=>∃n:Nat,198<=n/\n<=203/\t1=.int .i64 n/\Hid (Below w.heap.size w wr)) (fun _ t1 _ _ _ _ _ _ _ _ _ _ _ _ _ _ _ _ _ _ _ _ _ _ _ _ _ _ _ _ _ _ _ _ _ _ _ _ _ _ _ _ _ _ _ _ _ _ _ _ _ _ _ _ _ _ _ _ _ _ _ _ _ _ _ _ _ _ _ _ _ _ _ _ _ _ _ _ _ _ _ _ _ _ _ _ _ _ _ _ _ _ _ _ _ _ _ _ _ _ _ _ _ _ _ _ _ _ _ _ _ _ _=>203-(intOf t1).toNat)
 case atStart=>exact⟨198,by omega,by omega,by first|rfl|go_num,zh (yR _ _)⟩
 case round =>
  obtain⟨n,L,M,rfl,G⟩:=hrel;by_cases N:n<=202
  ·have F:(n:Int)<=202:=by omega
   obtain⟨I,rfl⟩:∃I:World,I=wr:=⟨_,rfl⟩;go_wp2_with fail
   go_loopw [2,3,4,5,6,7,8,13,14,15,16,17,18,19,20,21,22,23,24,25,26,27,28,29,30,31,32,33,34] (fun t2 t3 t4 t5 t6 t7 t8 _ _ _ _ _ _ _ _ _ _ _ _ _ _ _ _ _ _ _ _ _ _ wr=>∃(i:Nat) (o e g b c u:ByteArray),i<=n/\t8=.int .i64 i/\t2=.string o/\t3=.string e/\t4=.string g/\t5=.string b/\t6=.string c/\t7=.string u/\(o.size=i/\e.size=i/\g.size<=i/\b.size<=9*i/\c.size<=12*i/\u.size<=1+2*i)/\Hid (Below w.heap.size w wr)) (fun _ _ _ _ _ _ t8 _ _ _ _ _ _ _ _ _ _ _ _ _ _ _ _ _ _ _ _ _ _ _=>n-(intOf t8).toNat)
   case atStart=>exact⟨0,_,_,_,_,_,_,by omega,by first|rfl|go_num,rfl,rfl,rfl,rfl,rfl,rfl,⟨by decide,by decide,by decide,by decide,by decide,by decide⟩,G⟩
   case round =>
    obtain⟨i,o,e,g,b,c,u,hi,rfl,rfl,rfl,rfl,rfl,rfl,rfl,⟨Z,X,Y,hb,V,hu⟩,d⟩:=hrel;by_cases D:i<n
    ·have q:(i:Int)<(n:Int):=by omega
     have S:o.size<=140737488355328:=by omega
     have R:e.size<=140737488355328:=by omega
     have sg:g.size<=140737488355328:=by omega
     have P:b.size<=140737488355328:=by omega
     have Q:c.size<=140737488355328:=by omega
     have T:u.size<=140737488355328:=by omega
     obtain⟨r,hr,O⟩:∃r:Nat,(i:Int).tmod 2=(r:Int)/\r<2:=⟨i%2,by rw[Int.tmod_eq_emod_of_nonneg (by omega)];omega,by omega⟩;have v:r=0∨r=1:=by omega
     have C:=d.out.size;rcases v with rfl|rfl
     all_goals
      go_wp2_with fail
      go_roundw
      case rel=>exact⟨i+1,_,_,_,_,_,_,by omega,by go_num,rfl,rfl,rfl,rfl,rfl,rfl,by simp only[Go.ByteArray.size_append',Go.ByteArray.size_mk',List.size_toArray,yB,yL];omega,zh (d.out.alloc C _)⟩
      case measure=>simp[intOf];omega
    ·have q:¬(i:Int)<(n:Int):=by omega
     have E:n=i:=by omega
     subst E;clear q D hi;have S:o.size<=140737488355328:=by omega
     have R:e.size<=140737488355328:=by omega
     have sg:g.size<=140737488355328:=by omega
     have P:b.size<=140737488355328:=by omega
     have Q:c.size<=140737488355328:=by omega
     have T:u.size<=140737488355328:=by omega
     have A:Hid (∀(W:World) (s:ByteArray),Below wr.heap.size wr W->s.size<=1000000->Calls Tryz.prog 14 #[.string s] W (YesE W)):=zh (fun W s hb hs=>J.out W s (d.out.trans (hb.mono d.out.size)) hs);have B:Hid (∀(W:World) (s:ByteArray),Below wr.heap.size wr W->s.size<=1000000->Calls Tryz.prog 16 #[.string s] W (YesE W)):=zh (fun W s hb hs=>K.out W s (d.out.trans (hb.mono d.out.size)) hs);have w1:IntKind.i64.wrap ((n:Int)-1)=(n:Int)-1:=IntWalk.i64_in _ (by omega);have w2:IntKind.i64.wrap ((n:Int)-2)=(n:Int)-2:=IntWalk.i64_in _ (by omega);have n1:((n:Int)-1).toNat=n-1:=by omega
     have n2:((n:Int)-2).toNat=n-2:=by omega
     have o1:(n:Int)-1<=(o.size:Int):=by omega
     have o2:(n:Int)-2<=(o.size:Int):=by omega
     have U:(n:Int)-1<=(e.size:Int):=by omega
     have H:(n:Int)-2<=(e.size:Int):=by omega
     have z1:(0:Int)<=(n:Int)-1:=by omega
     have z2:(0:Int)<=(n:Int)-2:=by omega
     go_wp2_with fail
     simp only[List.append_eq,List.cons_append,List.nil_append];refine zac (fun w'=>Below wr.heap.size wr w') (by kernel_rfl) (by kernel_rfl) ((yR _ _).drew) ?_
     repeat
      try simp only[Act.put,zs1,zs3,zs2]
      apply stepsSeq.cons
      ·intro w' j;have f:=zh j;simp only[Act.put,zs1,zs3,zs2];go_wp2_with (first|(go_at_call 16;refine(B.out _ _ f.out (by first|omega|(simp only[Go.ByteArray.size_append',Go.ByteArray.size_mk',ByteArray.size_extract,List.size_toArray,yB,yL];omega))).mono ?_;rintro H w2⟨rfl,l⟩)|(go_at_call 14;refine(A.out _ _ f.out (by first|omega|(simp only[Go.ByteArray.size_append',Go.ByteArray.size_mk',ByteArray.size_extract,List.size_toArray,yB,yL];omega))).mono ?_;rintro H w2⟨rfl,l⟩))
       first|exact⟨rfl,f.out⟩|exact⟨rfl,f.out.trans (l.mono f.out.size)⟩
     try simp only[Act.put,zs1,zs3,zs2]
     refine stepsSeq.nil ?_;intro w' j;have z:=zh (d.out.trans (j.mono d.out.size));clear j;go_wp2_with fail
     go_roundw
     case rel=>exact⟨n+1,by omega,by omega,by go_num,z⟩
     case measure=>simp[intOf];omega
  ·have F:¬(n:Int)<=202:=by omega
   go_wp2_with fail
   go_ret;exact⟨rfl,G.out⟩
end Go.Proofs.YtoaojdobjinhfaaGreatDoor
