/- marcheslaw12.ParseSmall, walked: it answers true. -/
import Derived.Test.YtoaojdobjinhfaaGreatDoorSmAQz
import Derived.Test.YtoaojdobjinhfaaGreatDoorSmBQz
import Derived.Test.YtoaojdobjinhfaaGreatDoorSmDQz
set_option linter.unusedSimpArgs false
set_option linter.unusedVariables false
set_option maxRecDepth 100000
set_option maxHeartbeats 16000000
namespace Go.Proofs.YtoaojdobjinhfaaGreatDoor
open Go.RowKit
theorem parseSmall_any{w:World}(O:Glob w):Calls Tryz.prog 8 #[] w (YesE w):=by
 have C:=O.size;have T:Hid (∀W,Below w.heap.size w W->Glob W):=zh (fun W hb=>O.below hb C);have HP:Hid (∀(W:World) (s:ByteArray),Below w.heap.size w W->s.size<=1000000->Calls Tryz.prog 14 #[.string s] W (YesE W)):=zh (fun W s hb hs=>zkY s (by omega) W (O.below hb C));have HR:Hid (∀(W:World) (s:ByteArray),Below w.heap.size w W->s.size<=1000000->Calls Tryz.prog 16 #[.string s] W (YesE W)):=zh (fun W s hb hs=>reads_any s (by omega) W (O.below hb C));clear O;go_enter Tryz.func8,Tryz.ntmps8
 go_wp2_with fail
 refine(words_any w).mono ?_;rintro e1 w1⟨⟨v1,rfl,P⟩,f⟩;have H:=zh P;have X:=zh f;clear P f;obtain⟨b1,o1,M,rfl,-,-⟩:=H.out.at (by decide);go_wp2_with fail
 go_loopw [0,3,4,9,10,11,12,13,14,15,16,17,18,19,20,21,22,23,24,25,26,27,28,29,30,31,32,33,34,35,36,37,38,39,40,41,42,43,44,45,46,47,48,49,50,51] (fun _ t3 _ _ _ _ _ _ _ _ _ _ _ _ _ _ _ _ _ _ _ _ _ _ _ _ _ _ _ _ _ _ _ _ _ _ _ _ _ _ _ _ _ _ _ _ wr=>∃i:Nat,i<=27000/\t3=.int .i64 i/\Hid (RowW wr 30 (.slice (some ⟨b1,o1,none⟩) 30 M))/\Hid (Below w.heap.size w wr)) (fun _ t3 _ _ _ _ _ _ _ _ _ _ _ _ _ _ _ _ _ _ _ _ _ _ _ _ _ _ _ _ _ _ _ _ _ _ _ _ _ _ _ _ _ _ _ _ _=>27000-(intOf t3).toNat)
 case atStart=>exact⟨0,by omega,by first|rfl|go_num,H,X⟩
 case round =>
  obtain⟨i,hi,rfl,g,d⟩:=hrel;obtain⟨V,rfl⟩:∃V:World,V=wr:=⟨_,rfl⟩;by_cases A:i<27000
  ·have y:(i:Int)<27000:=by omega
   go_upto_region 6 with(fail)
   obtain⟨a1,Y⟩:∃a,a=i/30:=⟨_,rfl⟩;obtain⟨r2,ab⟩:∃a,a=a1/30:=⟨_,rfl⟩;obtain⟨r0,Z⟩:∃a,a=i%30:=⟨_,rfl⟩;obtain⟨r1,aa⟩:∃a,a=a1%30:=⟨_,rfl⟩;have e1:IntKind.i64.wrap ((i:Int)/30)=(a1:Int):=by rw[IntWalk.i64_in _ (by omega)];omega
   have N:IntKind.i64.wrap ((a1:Int)/30)=(r2:Int):=by rw[IntWalk.i64_in _ (by omega)];omega
   have t0:(i:Int).tmod 30=(r0:Int):=by rw[Int.tmod_eq_emod_of_nonneg (by omega)];omega
   have t1:(a1:Int).tmod 30=(r1:Int):=by rw[Int.tmod_eq_emod_of_nonneg (by omega)];omega
   have k0:(r0:Int)<30:=by omega
   have k1:(r1:Int)<30:=by omega
   have k2:(r2:Int)<30:=by omega
   obtain⟨u0,z0,U⟩:=g.out.cell (k:=r0) (by omega);obtain⟨u1,z1,c1⟩:=g.out.cell (k:=r1) (by omega);obtain⟨u2,z2,c2⟩:=g.out.cell (k:=r2) (by omega);have s0:u0.size<=140737488355328:=by omega
   have s1:u1.size<=140737488355328:=by omega
   have s2:u2.size<=140737488355328:=by omega
   have J:=zh A;have L:=zh (IntWalk.wrap64_in ((i:Int)+1) (by omega));clear Y ab Z aa hi A y;refine zac (DrewOf V) (by kernel_rfl) (by kernel_rfl) (DrewOf.start _) ?_
   repeat
    try simp only[Act.put,zs1,zs3,zs2]
    apply stepsSeq.cons
    ·rintro w'⟨D,rfl⟩;simp only[Act.put,zs1,zs3,zs2];go_wp2_with (fail)
     first|exact⟨rfl,D,rfl⟩|exact⟨rfl,D,(World.drewN_drewN _ _ _).symm⟩|exact⟨rfl,D,by simp⟩
   try simp only[Act.put,zs1,zs3,zs2]
   refine stepsSeq.nil ?_;rintro w'⟨D,rfl⟩;replace g:=zh (g.out.below (Below.drewN (yR _ _) D));replace d:=zh (Below.drewN d.out D)
   generalize V.drewN D=wq at *
   obtain⟨s,hs⟩:∃s:ByteArray,s=u0++{ data:=#[32] }++u1++{ data:=#[32] }++u2:=⟨_,rfl⟩;have ac:s.size<=1000:=by rw[hs];simp only[Go.ByteArray.size_append',Go.ByteArray.size_mk',List.size_toArray,yB,yL];omega
   rw[<-hs];have G:=zh (HP.out wq s d.out (by omega));clear hs U c1 c2 z0 z1 z2 s0 s1 s2 e1 N t0 t1 k0 k1 k2;go_wp2_with fail
   refine G.out.mono ?_;rintro e3 w3⟨rfl,j⟩;replace g:=zh (g.out.below j);replace d:=zh (d.out.trans (j.mono d.out.size));have I:=zh (HR.out w3 s d.out (by omega));clear j G;go_wp2_with fail
   refine I.out.mono ?_;rintro e4 w4⟨rfl,m⟩;replace g:=zh (g.out.below m);replace d:=zh (d.out.trans (m.mono d.out.size));clear m I ac;go_wp2_with fail
   go_roundw
   case rel=>exact⟨i+1,J.out,congrArg _ (by rw[L.out];omega),g,d⟩
   case measure=>rw[L.out];have:=J.out;simp[intOf];omega
  ·have y:¬(i:Int)<27000:=by omega
   go_wp2_with fail
   clear y A hi;go_loopw [0,5,52,53,54,55,56,57,58,59,60,61,62,63,64,65,66,67,68,69,70,71,72,73,74,75,76,77,78,79,80] (fun _ t5 _ _ _ _ _ _ _ _ _ _ _ _ _ _ _ _ _ _ _ _ _ _ _ _ _ _ _ _ _ wr=>∃i:Nat,i<=30/\t5=.int .i64 i/\Hid (RowW wr 30 (.slice (some ⟨b1,o1,none⟩) 30 M))/\Hid (Below w.heap.size w wr)) (fun _ t5 _ _ _ _ _ _ _ _ _ _ _ _ _ _ _ _ _ _ _ _ _ _ _ _ _ _ _ _ _ _=>30-(intOf t5).toNat)
   case atStart=>exact⟨0,by omega,by first|rfl|go_num,g,d⟩
   case round =>
    obtain⟨i,hi,rfl,g,d⟩:=hrel;by_cases A:i<30
    ·have y:(i:Int)<30:=by omega
     obtain⟨u,z,U⟩:=g.out.cell A;obtain⟨l,rfl⟩:∃l,u=bstr l:=⟨u.data.toList,by unfold bstr;simp⟩;have HN:Hid (∀W:World,_):=zh (fun W:World=>zdr l W);have F:Hid (∀W:World,_):=zh (fun W:World=>zfU l W);have HK:Hid (∀W:World,_):=zh (fun W:World=>za5 l W);have E:Hid (∀W:World,_):=zh (fun W:World=>zb6 l W)
     generalize zaP l=q at *
     generalize zap l=K at *
     generalize bstr l=S at *
     have hq:(q==q)=true:=by simp
     go_upto_region 12 with(fail)
     refine zac (fun w'=>Below wr.heap.size wr w') (by kernel_rfl) (by kernel_rfl) ((yR _ _).drew) ?_
     repeat
      try simp only[Act.put,zs1,zs3,zs2]
      apply stepsSeq.cons
      ·intro w' f;have v:=zh f;have ad:=Below.keep f U;simp only[Act.put,zs1,zs3,zs2];go_wp2_with (first|(go_at_call 21;refine(HN.out _).mono ?_;rintro N w2⟨rfl,B⟩)|(go_at_call 22;refine(F.out _).mono ?_;rintro N w2⟨rfl,B⟩)|(go_at_call 23;refine(HK.out _).mono ?_;rintro N w2⟨rfl,B⟩)|(go_at_call 24;refine(E.out _).mono ?_;rintro N w2⟨rfl,B⟩))
       first|exact⟨rfl,v.out⟩|exact⟨rfl,v.out.trans (B.mono v.out.size)⟩
     try simp only[Act.put,zs1,zs3,zs2]
     refine stepsSeq.nil ?_;intro w' f;replace g:=zh (g.out.below f);replace d:=zh (d.out.trans (f.mono d.out.size));clear f U HN F HK E hq;go_wp2_with fail
     exact⟨⟨i+1,by omega,congrArg _ (by omega),g,d⟩,by simp[intOf];omega⟩
    ·have y:¬(i:Int)<30:=by omega
     have H1:=zh (changed_any (T.out _ d.out));go_wp2_with fail
     refine H1.out.mono ?_;rintro e3 w3⟨rfl,j⟩;replace d:=zh (d.out.trans (j.mono d.out.size));clear j H1;have H2:=zh (nested_any (T.out _ d.out));go_wp2_with fail
     refine H2.out.mono ?_;rintro e4 w4⟨rfl,m⟩;replace d:=zh (d.out.trans (m.mono d.out.size));clear m H2;have H3:=zh (written_any (T.out _ d.out));go_wp2_with fail
     refine H3.out.mono ?_;rintro e5 w5⟨rfl,Q⟩;replace d:=zh (d.out.trans (Q.mono d.out.size));clear Q H3;have H4:=zh (zfY (T.out _ d.out));go_wp2_with fail
     refine H4.out.mono ?_;rintro e6 w6⟨rfl,R⟩;replace d:=zh (d.out.trans (R.mono d.out.size));clear R H4;go_wp2_with fail
     go_ret;exact⟨rfl,d.out⟩
end Go.Proofs.YtoaojdobjinhfaaGreatDoor
