/- The program's lexer: skip, walked, once for each function that it is given. No condition but the bounds of a source. -/
import Derived.Test.YtoaojdobjinhfaaGreatDoorLexMPz
import Derived.Test.YtoaojdobjinhfaaGreatDoorOnlyPz
import Derived.Deep.LoopGhost
import Derived.Shelf.Abstract
set_option linter.unusedSimpArgs false
set_option linter.unusedVariables false
set_option maxRecDepth 100000
set_option maxHeartbeats 2000000
namespace Go.Proofs.YtoaojdobjinhfaaGreatDoor
open Go.RowKit

def Scan (w : World) (b : Nat) (line col : Int) (src : ByteArray) (at' : Nat) : Prop := OwnV w b 83 [.int .i64 line, .int .i64 col, .string src, .int .i64 at']
def zbF (b : Nat) (src : ByteArray) (at' n : Nat) (line col : Int) (S : Nat -> Prop) (w : World) (e : Ending) (w' : World) : Prop :=
  e = .returned (.string (bstr ((src.data.toList.drop at').take n))) /\ Scan w' b (posS ((src.data.toList.drop at').take n) line col).1 (posS ((src.data.toList.drop at').take n) line col).2 src (at' + n) /\ Only S w w'
theorem Scan.cells{w:World}{b:Nat}{line col:Int}{src:ByteArray}{at':Nat}(h:Scan w b line col src at') :
  w.cell? ⟨b,0,none⟩=some (.int .i64 line)/\w.cell? ⟨b,1,none⟩=some (.int .i64 col)/\w.cell? ⟨b,2,none⟩=some (.string src)/\w.cell? ⟨b,3,none⟩=some (.int .i64 at')/\(∀o,w.frozen? ⟨b,o,none⟩=false):=
 ⟨OwnV.cell h rfl,OwnV.cell h rfl,OwnV.cell h rfl,OwnV.cell h rfl,fun o=>OwnV.free h o⟩
theorem zex{p:Nat->UInt8->Bool}{s:ByteArray}{j:Nat}(h:j<s.size)(k:Nat):runK p k (s.data.toList.drop j)=if p k s[j]=true then runK p (k+1) (s.data.toList.drop (j+1))+1 else 0:=by
 rw[za2 s h,runK]
theorem zfk{p:Nat->UInt8->Bool}{s:ByteArray}{j:Nat}(h:s.size<=j)(k:Nat):runK p k (s.data.toList.drop j)=0:=by
 rw[zdf s h,runK]
theorem zey{s:ByteArray}{j m:Nat}(h:j<s.size)(l c:Int):posS ((s.data.toList.drop j).take (m+1)) l c=if s[j].toNat=10 then posS ((s.data.toList.drop (j+1)).take m) (l+1) 1 else posS ((s.data.toList.drop (j+1)).take m) l (c+1):=by
 rw[za2 s h,List.take_succ_cons,posS]

theorem skip_gen{b:Nat}{src:ByteArray}{at':Nat}{line col:Int}{w:World}{f:Nat}{cl:Array Value}(p:Nat->UInt8->Bool)(S:Nat->Prop)(I:Nat->World->Prop)(hb:S b)
  (he:∀args w,(callFunc f args).run Tryz.prog w=.ok (.enter f args) w) (hI:∀k W W',I k W->Only (fun g=>g=b) W W'->I k W')
  (hC:∀k (x:UInt8) W,k<=16384->I k W->Calls Tryz.prog f (#[.int .u8 (x.toNat:Int)]++cl) W fun e w'=>e=.returned (.bool (p k x))/\I (k+1) w'/\Only (fun g=>S g/\g≠b) W w')
  (h0:I 0 w) (hS:Scan w b line col src at') (au:at'<=src.size) (aw:src.size<=16384) (hl:0<=line/\line<=at'+1) (hc:0<=col/\col<=at'+1) :
  Calls Tryz.prog 103 #[.pointer (some ⟨b,0,none⟩),.func (.func f) #[] cl] w (zbF b src at' (runK p 0 (src.data.toList.drop at')) line col S w):=by
 obtain⟨N,HN⟩:∃N,Hid (runK p 0 (src.data.toList.drop at')=N):=⟨_,zh rfl⟩;obtain⟨L,C,HP⟩:∃L C,Hid (posS ((src.data.toList.drop at').take N) line col=(L,C)):=⟨_,_,zh rfl⟩;have ai:N<=src.size-at':=by have:=zfi p (src.data.toList.drop at') 0;rw[HN.out,List.length_drop,zaq] at this;exact this
 have HE:Hid (∀e w',e=.returned (.string (src.extract at' (at'+N)))->Scan w' b L C src (at'+N)->Only S w w'->zbF b src at' (runK p 0 (src.data.toList.drop at')) line col S w e w'):=zh (by
  intro e w' v z h3;unfold zbF;rw[HN.out,HP.out]
  exact⟨by rw[v,zbk,Nat.add_sub_cancel_left],z,h3⟩)
 obtain⟨R,hR⟩:∃R,R=zbF b src at' (runK p 0 (src.data.toList.drop at')) line col S w:=⟨_,rfl⟩;rw[<-hR] at HE ⊢;clear hR;obtain⟨Z,c1,X,Y,V⟩:=hS.cells;have J:=zh hS;have HC:=zh hC;have D:=zh hI;have aa:=zh he;have ac:=zh h0;have F:=zh hb;clear hS hC hI h0 hb he;go_enter Tryz.func103,Tryz.ntmps103
 go_wp2_with fail
 clear Z c1 X Y V;go_loopg [10,11,12,13,14,15,16,17,18,19,20,21,22,23,24,25,26,27,28,29,30,31,32,33,34,35,36,37,38,39,40,41,42,43,44,45,46,47,48,49,50,51,52,53,54,55,56,57,58,59,60,61,62,63,64,65,66,67,68] (N) (fun g _ _ _ _ _ _ _ _ _ _ _ _ _ _ _ _ _ _ _ _ _ _ _ _ _ _ _ _ _ _ _ _ _ _ _ _ _ _ _ _ _ _ _ _ _ _ _ _ _ _ _ _ _ _ _ _ _ _ _ wr=>∃(k j:Nat) (d i:Int),Hid (j=at'+k)/\g=N-k/\k<=N/\Hid (runK p k (src.data.toList.drop j)+k=N)/\Hid (posS ((src.data.toList.drop j).take (N-k)) d i=(L,C))/\(0<=d/\d<=j+1)/\(0<=i/\i<=j+1)/\Hid (Scan wr b d i src j)/\Hid (Only S w wr)/\Hid (I k wr))
 case atStart=>exact⟨0,at',line,col,zh rfl,by omega,by omega,zh (by rw[Nat.add_zero];exact HN.out),zh HP.out,hl,hc,zh J.out,zh (Only.refl _ _),zh ac.out⟩
 case round =>
  obtain⟨k,j,d,i,B,rfl,av,G,U,⟨an,ao⟩,⟨ax,ak⟩,J,HO,HK⟩:=hrel;obtain⟨Z,c1,X,Y,V⟩:=J.out.cells;have af:k<=16384:=by omega
  by_cases M:j<src.size
  ·obtain⟨q,ae,u⟩:∃q:Bool,Hid (p k src[j]=q)/\Hid (runK p k (src.data.toList.drop j)=if q=true then runK p (k+1) (src.data.toList.drop (j+1))+1 else 0):=⟨_,zh rfl,zh (zex M k)⟩;have ar:src[j].toNat<=255:=by have:=src[j].toNat_lt;omega
   have aj:(0:Int)<=(j:Int):=by omega
   go_wp2_with fail
   refine zaW 21 (DrewOf wr) (by kernel_rfl) (by kernel_rfl) (DrewOf.start _) ?_;simp only[List.take_succ_cons,List.take_zero,List.drop_succ_cons,List.drop_zero]
   repeat
    try simp only[Act.put,zs1,zs3,zs2]
    apply stepsSeq.cons
    ·rintro w'⟨l,rfl⟩;simp only[Act.put,zs1,zs3,zs2];go_wp2_with (fail)
     first|exact⟨rfl,l,rfl⟩|exact⟨rfl,l,(World.drewN_drewN _ _ _).symm⟩|exact⟨rfl,l,by simp⟩
   try simp only[Act.put,zs1,zs3,zs2]
   refine stepsSeq.nil ?_;rintro w'⟨l,rfl⟩;go_wp2_with fail
   rw[aa.out,Oper.upon_enter];refine(HC.out k src[j] _ af (D.out k _ _ HK.out ((Only.refl (fun g=>g=b) wr).drewN l))).mono ?_;rintro e1 w2⟨rfl,Q,A⟩;have y:Hid (Scan w2 b d i src j):=zh (A.own (J.out.drewN l) (fun h=>h.2 rfl));have E:=zh ((HO.out.drewN l).trans (A.mono fun _ _ h=>h.1));have P:=zh Q;clear Q A Z c1 X Y V;obtain⟨Z,c1,X,Y,V⟩:=y.out.cells;rw[ae.out];cases q
   ·have m:Hid (k=N):=zh (by have v:=u.out;have z:=G.out;rw[yN (by decide)] at v;omega);have HX:Hid (d=L/\i=C):=zh (by have h:=U.out;rw[m.out,Nat.sub_self,List.take_zero] at h;simpa[posS] using h);go_wp2_with fail
    have ad:at'<=j:=by have:=B.out;omega
    have H:(at':Int)<=(j:Int):=by omega
    have ap:j<=src.size:=by omega
    have ag:(j:Int)<=(src.size:Int):=by omega
    have ab:(0:Int)<=(at':Int):=by omega
    refine zac (DrewOf _) (by kernel_rfl) (by kernel_rfl) (DrewOf.start _) ?_
    repeat
     try simp only[Act.put,zs1,zs3,zs2]
     apply stepsSeq.cons
     ·rintro w'⟨l,rfl⟩;simp only[Act.put,zs1,zs3,zs2];go_wp2_with (fail)
      first|exact⟨rfl,l,rfl⟩|exact⟨rfl,l,(World.drewN_drewN _ _ _).symm⟩|exact⟨rfl,l,by simp⟩
    try simp only[Act.put,zs1,zs3,zs2]
    refine stepsSeq.nil ?_;rintro w'⟨l,rfl⟩;go_wp2_with fail
    try go_ret
    obtain rfl:j=at'+N:=by have v:=B.out;have z:=m.out;omega
    exact HE.out _ _ rfl (by obtain⟨rfl,rfl⟩:=HX.out;exact y.out.drewN _) (E.out.drewN _)
   ·have K:k+1<=N:=by have v:=u.out;have z:=G.out;rw[yP rfl] at v;omega
    have T:Hid (runK p (k+1) (src.data.toList.drop (j+1))+(k+1)=N):=zh (by have v:=u.out;have z:=G.out;rw[yP rfl] at v;omega)
    obtain⟨t,ht,O⟩:∃t:Bool,((src[j].toNat:Int)==10)=t/\Hid (posS ((src.data.toList.drop (j+1)).take (N-(k+1))) (if t=true then d+1 else d) (if t=true then 1 else i+1)=(L,C)):=⟨_,rfl,zh (by
     have h:=U.out;rw[show N-k=(N-(k+1))+1 by omega,zey M] at h;by_cases e:src[j].toNat=10
     ·have e2:((src[j].toNat:Int)==10)=true:=by simp[e]
      rw[yP e] at h;rw[e2];exact h
     ·have e2:((src[j].toNat:Int)==10)=false:=by rw[beq_eq_false_iff_ne];omega
      rw[yN e] at h;rw[e2];exact h)⟩
    clear G U u;cases t
    all_goals
     go_wp2_with fail
     refine zac (DrewOf _) (by kernel_rfl) (by kernel_rfl) (DrewOf.start _) ?_
     repeat
      try simp only[Act.put,zs1,zs3,zs2]
      apply stepsSeq.cons
      ·rintro w'⟨l,rfl⟩;simp only[Act.put,zs1,zs3,zs2];go_wp2_with (fail)
       first|exact⟨rfl,l,rfl⟩|exact⟨rfl,l,(World.drewN_drewN _ _ _).symm⟩|exact⟨rfl,l,by simp⟩
     try simp only[Act.put,zs1,zs3,zs2]
     refine stepsSeq.nil ?_;rintro w'⟨l,rfl⟩;go_wp2_with fail
     go_roundg (N-(k+1))
     case measure=>omega
     case rel =>
      first
       | exact⟨k+1,j+1,d,i+1,zh (by have:=B.out;omega),rfl,K,T,O,by omega,by omega,zh (((y.out.set 1 _).drewN _).set 3 _),zh (((E.out.setIn F.out _).drewN _).setIn F.out _),zh (D.out _ _ _ P.out ((((Only.refl (fun g=>g=b) w2).setIn rfl _).drewN _).setIn rfl _))⟩
       | exact⟨k+1,j+1,d+1,1,zh (by have:=B.out;omega),rfl,K,T,O,by omega,by omega,zh (((((y.out.set 1 _).drewN _).set 0 _).set 1 _).set 3 _),zh (((((E.out.setIn F.out _).drewN _).setIn F.out _).setIn F.out _).setIn F.out _),zh (D.out _ _ _ P.out ((((((Only.refl (fun g=>g=b) w2).setIn rfl _).drewN _).setIn rfl _).setIn rfl _).setIn rfl _))⟩
  ·have m:Hid (k=N):=zh (by have z:=G.out;rw[zfk (by omega)] at z;omega);have HX:Hid (d=L/\i=C):=zh (by have h:=U.out;rw[m.out,Nat.sub_self,List.take_zero] at h;simpa[posS] using h);have ad:at'<=j:=by have:=B.out;omega
   have H:(at':Int)<=(j:Int):=by omega
   have am:j<=src.size:=by have:=B.out;have:=m.out;omega
   have ah:(j:Int)<=(src.size:Int):=by omega
   have ab:(0:Int)<=(at':Int):=by omega
   have aq:(0:Int)<=(j:Int):=by omega
   go_wp2_with fail
   refine zac (DrewOf _) (by kernel_rfl) (by kernel_rfl) (DrewOf.start _) ?_
   repeat
    try simp only[Act.put,zs1,zs3,zs2]
    apply stepsSeq.cons
    ·rintro w'⟨l,rfl⟩;simp only[Act.put,zs1,zs3,zs2];go_wp2_with (fail)
     first|exact⟨rfl,l,rfl⟩|exact⟨rfl,l,(World.drewN_drewN _ _ _).symm⟩|exact⟨rfl,l,by simp⟩
   try simp only[Act.put,zs1,zs3,zs2]
   refine stepsSeq.nil ?_;rintro w'⟨l,rfl⟩;go_wp2_with fail
   refine zac (DrewOf _) (by kernel_rfl) (by kernel_rfl) (DrewOf.start _) ?_
   repeat
    try simp only[Act.put,zs1,zs3,zs2]
    apply stepsSeq.cons
    ·rintro w'⟨l,rfl⟩;simp only[Act.put,zs1,zs3,zs2];go_wp2_with (fail)
     first|exact⟨rfl,l,rfl⟩|exact⟨rfl,l,(World.drewN_drewN _ _ _).symm⟩|exact⟨rfl,l,by simp⟩
   try simp only[Act.put,zs1,zs3,zs2]
   refine stepsSeq.nil ?_;rintro w'⟨l,rfl⟩;go_wp2_with fail
   try go_ret
   obtain rfl:j=at'+N:=by have v:=B.out;have z:=m.out;omega
   exact HE.out _ _ rfl (by obtain⟨rfl,rfl⟩:=HX.out;exact J.out) ((HO.out.drewN _).drewN _)
theorem skip_still{b:Nat}{src:ByteArray}{at':Nat}{line col:Int}{w:World}{f:Nat}{p:UInt8->Bool}(j:∀args w,(callFunc f args).run Tryz.prog w=.ok (.enter f args) w)(l:∀(x:UInt8) W,Calls Tryz.prog f #[.int .u8 (x.toNat:Int)] W fun e w'=>e=.returned (.bool (p x))/\W=w')
  (hS:Scan w b line col src at') (i:at'<=src.size) (d:src.size<=16384) (q:0<=line/\line<=at'+1) (m:0<=col/\col<=at'+1) :
  Calls Tryz.prog 103 #[.pointer (some ⟨b,0,none⟩),.func (.func f) #[] #[]] w (zbF b src at' (runK (fun _=>p) 0 (src.data.toList.drop at')) line col (fun g=>g=b) w):=
 skip_gen (fun _=>p) (fun g=>g=b) (fun _ _=>True) rfl j (fun _ _ _ _ _=>trivial) (fun k x W _ _=>(l x W).mono (by rintro e w'⟨rfl,rfl⟩;exact⟨rfl,trivial,Only.refl _ _⟩)) trivial hS i d q m
theorem zgj(b:Nat)(src:ByteArray)(at':Nat)(line col:Int)(w:World)(hS:Scan w b line col src at')(f:at'<=src.size)(d:src.size<=16384)(j:0<=line/\line<=at'+1)(i:0<=col/\col<=at'+1) :
  Calls Tryz.prog 103 #[.pointer (some ⟨b,0,none⟩),.func (.func 137) #[] #[]] w (zbF b src at' (runK (fun _=>zbi) 0 (src.data.toList.drop at')) line col (fun g=>g=b) w):=skip_still (enters_of Tryz.func137 (by kernel_rfl) rfl) (fun x W=>zg1 _ W) hS f d j i
theorem ziX(b:Nat)(src:ByteArray)(at':Nat)(line col:Int)(w:World)(hS:Scan w b line col src at')(f:at'<=src.size)(d:src.size<=16384)(j:0<=line/\line<=at'+1)(i:0<=col/\col<=at'+1) :
  Calls Tryz.prog 103 #[.pointer (some ⟨b,0,none⟩),.func (.func 138) #[] #[]] w (zbF b src at' (runK (fun _=>zaU) 0 (src.data.toList.drop at')) line col (fun g=>g=b) w):=skip_still (enters_of Tryz.func138 (by kernel_rfl) rfl) (fun x W=>zfv _ W) hS f d j i
theorem zlp(b:Nat)(src:ByteArray)(at':Nat)(line col:Int)(w:World)(hS:Scan w b line col src at')(f:at'<=src.size)(d:src.size<=16384)(j:0<=line/\line<=at'+1)(i:0<=col/\col<=at'+1) :
  Calls Tryz.prog 103 #[.pointer (some ⟨b,0,none⟩),.func (.func 102) #[] #[]] w (zbF b src at' (runK (fun _=>zaf) 0 (src.data.toList.drop at')) line col (fun g=>g=b) w):=skip_still (enters_of Tryz.func102 (by kernel_rfl) rfl) (fun x W=>zh8 _ W) hS f d j i
def zib (b : Nat) (src : ByteArray) (at' : Nat) (line col : Int) (w : World) (e : Ending) (w' : World) : Prop :=
  e = .returned (.tuple #[]) /\ (∃ j, at' <= j /\ j <= src.size /\ zam (src.data.toList.drop at') false line col = (src.data.toList.drop j, (zam (src.data.toList.drop at') false line col).2.1, (zam (src.data.toList.drop at') false line col).2.2) /\
    Scan w' b (zam (src.data.toList.drop at') false line col).2.1 (zam (src.data.toList.drop at') false line col).2.2 src j /\
    (0 <= (zam (src.data.toList.drop at') false line col).2.1 /\ (zam (src.data.toList.drop at') false line col).2.1 <= j + 1) /\ (0 <= (zam (src.data.toList.drop at') false line col).2.2 /\ (zam (src.data.toList.drop at') false line col).2.2 <= j + 1)) /\ Only (fun g => g = b) w w'
theorem zdy{src:ByteArray}{at' n:Nat}(_:at'+n<=src.size){line col:Int}(g:0<=line/\line<=at'+1)(f:0<=col/\col<=at'+1) :
  (0<=(posS ((src.data.toList.drop at').take n) line col).1/\(posS ((src.data.toList.drop at').take n) line col).1<=(at'+n:Nat)+1)/\(0<=(posS ((src.data.toList.drop at').take n) line col).2/\(posS ((src.data.toList.drop at').take n) line col).2<=(at'+n:Nat)+1):=by
 have h:=zm4 ((src.data.toList.drop at').take n) line col g.1 f.1;have d:((src.data.toList.drop at').take n).length<=n:=List.length_take_le _ _;omega
theorem zd0{src:ByteArray}{at':Nat}(d:at'<=src.size)(p:UInt8->Bool):at'+((src.data.toList.drop at').takeWhile p).length<=src.size:=by
 have h:=(List.takeWhile_prefix (l:=src.data.toList.drop at') p).length_le;rw[List.length_drop,zaq] at h;omega
theorem zj4(b:Nat)(src:ByteArray)(at':Nat)(line col:Int)(w:World)(hS:Scan w b line col src at')(I:at'<=src.size)(Q:src.size<=16384)(hl:0<=line/\line<=at'+1)(hc:0<=col/\col<=at'+1) :
  Calls Tryz.prog 101 #[.pointer (some ⟨b,0,none⟩)] w (zib b src at' line col w):=by
 obtain⟨F,L,C,HF⟩:∃F L C,Hid (zam (src.data.toList.drop at') false line col=(F,L,C)):=⟨_,_,_,zh rfl⟩
 obtain⟨R,Z⟩:∃R,R=zib b src at' line col w/\Hid (∀w' j,at'<=j->j<=src.size->F=src.data.toList.drop j->Scan w' b L C src j->(0<=L/\L<=j+1)->(0<=C/\C<=j+1)->Only (fun g=>g=b) w w'->R (.returned (.tuple #[])) w'):=⟨_,rfl,zh (by
  intro w' j h1 h2 h3 h4 h5 h6 h7;unfold zib;rw[HF.out]
  exact⟨rfl,⟨j,h1,h2,by rw[h3],h4,h5,h6⟩,h7⟩)⟩
 rw[<-Z.1];have Z:=Z.2;have HB:=zh (zgj b src at' line col w hS I Q hl hc);have Hp:=zh (zdy (zd0 I zbi) hl hc);have Hk:=zh (zfu (src.data.toList.drop at') line col);have ae:=zd0 I zbi;have Hf:=zh (zg0 (p:=zbi) (src.data.toList.drop at'));rw[zeu] at HB;rw[List.drop_drop] at Hk Hf
 generalize ((src.data.toList.drop at').takeWhile zbi).length=n0 at *
 go_enter Tryz.func101,Tryz.ntmps101
 go_wp2_with fail
 go_at_call 103;refine HB.out.mono ?_;unfold zbF;rintro e1 w1⟨rfl,ac,V⟩;have K:=zh ac;have X:=zh V;clear ac V HB hS;obtain⟨l0,k0,ad⟩:∃l0 k0,Hid (posS ((src.data.toList.drop at').take n0) line col=(l0,k0)):=⟨_,_,zh rfl⟩;rw[ad.out] at K Hp Hk;rw[HF.out] at Hk;clear HF ad;go_wp2_with fail
 go_loopg [4,5,6,7,8,9,10,11,12,13,14,15,16,17,18,19,20,21,22,23,24,25,26,27,28,29] (src.size-(at'+n0)) (fun g _ _ _ _ _ _ _ _ _ _ _ _ _ _ _ _ _ _ _ _ _ _ _ _ _ _ wr=>∃(j:Nat) (d f:Int),g=src.size-j/\at'<=j/\j<=src.size/\(0<=d/\d<=j+1)/\(0<=f/\f<=j+1)/\Hid ((F,L,C)=zam (src.data.toList.drop j) false d f)/\Hid ((src.data.toList.drop j).head?.all (fun b=>!zbi b)=true)/\Hid (Scan wr b d f src j)/\Hid (Only (fun g=>g=b) w wr))
 case atStart=>exact⟨at'+n0,l0,k0,rfl,by omega,ae,Hp.out.1,Hp.out.2,zh Hk.out,zh Hf.out,zh K.out,zh X.out⟩
 case round =>
  clear K X Hp Hk Hf;obtain⟨j,d,f,rfl,Y,E,y,v,HK,HH,W,HO⟩:=hrel;obtain⟨c0,c1,c2,c3,cf⟩:=W.out.cells;have aj:(0:Int)<=(j:Int):=by omega
  by_cases G:j<src.size
  ·obtain⟨q,hq,Hq⟩:∃q:Bool,((src[j].toNat:Int)==35)=q/\Hid (q=true ↔ src[j].toNat=35):=⟨_,rfl,zh (by rw[beq_iff_eq];omega)⟩;have ak:src[j].toNat<=255:=by have:=src[j].toNat_lt;omega
   cases q
   ·have HX:Hid (F=src.data.toList.drop j/\L=d/\C=f):=zh (by
     have h:=HK.out;have hh:=HH.out;rw[za2 src G] at h hh ⊢
     have hb:¬(src[j].toNat=32∨src[j].toNat=9∨src[j].toNat=10):=by
      intro e;have:=(zgZ _).2 e;simp[this] at hh
     have af:src[j].toNat≠35:=fun e=>by have:=Hq.out.2 e;cases this
     rw[zcu (by omega) (by omega) (by omega) af] at h
     simpa using h)
    go_wp2_with fail
    refine zac (DrewOf _) (by kernel_rfl) (by kernel_rfl) (DrewOf.start _) ?_
    repeat
     try simp only[Act.put,zs1,zs3,zs2]
     apply stepsSeq.cons
     ·rintro w'⟨i,rfl⟩;simp only[Act.put,zs1,zs3,zs2];go_wp2_with (fail)
      first|exact⟨rfl,i,rfl⟩|exact⟨rfl,i,(World.drewN_drewN _ _ _).symm⟩|exact⟨rfl,i,by simp⟩
    try simp only[Act.put,zs1,zs3,zs2]
    refine stepsSeq.nil ?_;rintro w'⟨i,rfl⟩;go_wp2_with fail
    refine yE (results_none rfl _ _ _) rfl ?_;obtain⟨h1,rfl,rfl⟩:=HX.out;exact Z.out _ j Y E h1 W.out y v (HO.out.drewN _)
   ·have A:j<=src.size:=E
    have HI:Hid (∀n,Calls Tryz.prog 103 #[.pointer (some ⟨b,0,none⟩),.func (.func 138) #[] #[]] (wr.drewN n) (zbF b src j ((src.data.toList.drop j).takeWhile zaU).length d f (fun g=>g=b) (wr.drewN n))):=zh (fun n=>by
     have:=ziX b src j d f (wr.drewN n) (W.out.drewN n) A Q y v
     rw[zeu] at this;exact this)
    have ai:1<=((src.data.toList.drop j).takeWhile zaU).length:=by
     rw[za2 src G];have:zaU src[j]=true:=(zdx _).2 (by have:=Hq.out.1 rfl;omega);simp[this]
    have l:=zd0 A zaU;have u:=zh (zdy l y v);have P:=zh (zh7 (r:=src.data.toList.drop (j+1)) (Hq.out.1 rfl) d f);rw[<-za2 src G,List.drop_drop] at P
    generalize ((src.data.toList.drop j).takeWhile zaU).length=m at *
    obtain⟨l2,k2,H⟩:∃l2 k2,Hid (posS ((src.data.toList.drop j).take m) d f=(l2,k2)):=⟨_,_,zh rfl⟩;rw[H.out] at u P;go_wp2_with fail
    refine zac (DrewOf _) (by kernel_rfl) (by kernel_rfl) (DrewOf.start _) ?_
    repeat
     try simp only[Act.put,zs1,zs3,zs2]
     apply stepsSeq.cons
     ·rintro w'⟨i,rfl⟩;simp only[Act.put,zs1,zs3,zs2];go_wp2_with (fail)
      first|exact⟨rfl,i,rfl⟩|exact⟨rfl,i,(World.drewN_drewN _ _ _).symm⟩|exact⟨rfl,i,by simp⟩
    try simp only[Act.put,zs1,zs3,zs2]
    refine stepsSeq.nil ?_;rintro w'⟨i,rfl⟩;go_wp2_with fail
    clear c0 c1 c2 c3 cf;go_at_call 103;refine(HI.out _).mono ?_;unfold zbF;rintro e1 w2⟨rfl,D,S⟩;rw[H.out] at D;have ab:=zh D;have aa:=zh (HO.out.trans ((Only.refl _ _).drewN _ |>.trans S));clear D S HI H W HO;have J:=zh (zgj b src (j+m) l2 k2 w2 ab.out l Q u.out.1 u.out.2);have z:=zd0 l zbi;have N:=zh (zdy z u.out.1 u.out.2);have M:=zh (zfu (src.data.toList.drop (j+m)) l2 k2);have T:=zh (zg0 (p:=zbi) (src.data.toList.drop (j+m)));rw[zeu] at J;rw[List.drop_drop] at M T
    generalize ((src.data.toList.drop (j+m)).takeWhile zbi).length=n2 at *
    obtain⟨l3,k3,O⟩:∃l3 k3,Hid (posS ((src.data.toList.drop (j+m)).take n2) l2 k2=(l3,k3)):=⟨_,_,zh rfl⟩;rw[O.out] at N M;go_wp2_with fail
    go_at_call 103;refine J.out.mono ?_;unfold zbF;rintro e1 w3⟨rfl,B,U⟩;rw[O.out] at B;have ag:=zh B;have ah:=zh (aa.out.trans U);clear B U J O ab aa;go_wp2_with fail
    go_roundg (src.size-(j+m+n2))
    case measure=>omega
    case rel=>exact⟨j+m+n2,l3,k3,rfl,by omega,z,N.out.1,N.out.2,zh (by rw[HK.out,P.out,M.out]),zh T.out,zh ag.out,zh ah.out⟩
  ·have HX:Hid (F=src.data.toList.drop j/\L=d/\C=f):=zh (by
    have h:=HK.out;rw[zdf src (by omega)] at h ⊢
    simpa[zam] using h)
   go_wp2_with fail
   refine zac (DrewOf _) (by kernel_rfl) (by kernel_rfl) (DrewOf.start _) ?_
   repeat
    try simp only[Act.put,zs1,zs3,zs2]
    apply stepsSeq.cons
    ·rintro w'⟨i,rfl⟩;simp only[Act.put,zs1,zs3,zs2];go_wp2_with (fail)
     first|exact⟨rfl,i,rfl⟩|exact⟨rfl,i,(World.drewN_drewN _ _ _).symm⟩|exact⟨rfl,i,by simp⟩
   try simp only[Act.put,zs1,zs3,zs2]
   refine stepsSeq.nil ?_;rintro w'⟨i,rfl⟩;go_wp2_with fail
   refine yE (results_none rfl _ _ _) rfl ?_;obtain⟨h1,rfl,rfl⟩:=HX.out;exact Z.out _ j Y E h1 W.out y v (HO.out.drewN _)
theorem zlq(b:Nat)(src:ByteArray)(at':Nat)(line col:Int)(w:World)(lb m:Nat)(y:m<=100)(d:lb≠b)(q:OwnV w lb 3 [.int .i64 m])(hS:Scan w b line col src at')(j:at'<=src.size)(f:src.size<=16384)(v:0<=line/\line<=at'+1)(u:0<=col/\col<=at'+1) :
  Calls Tryz.prog 103 #[.pointer (some ⟨b,0,none⟩),.func (.func 107) #[] #[.pointer (some ⟨lb,0,none⟩)]] w (zbF b src at' (runK (fun i _=>decide (i<m)) 0 (src.data.toList.drop at')) line col (fun g=>g=b∨g=lb) w):=
 skip_gen (fun i _=>decide (i<m)) (fun g=>g=b∨g=lb) (fun k W=>OwnV W lb 3 [.int .i64 ((m:Int)-k)]) (.inl rfl) (enters_of Tryz.func107 (by kernel_rfl) rfl) (fun k W W' h hO=>hO.own h d)
  (fun k x W hk h=>(zlf _ ((m:Int)-k) lb (decide (k<m)) W (OwnV.cell h rfl) (OwnV.free h 0) (by omega) (by omega) (by simp only[decide_eq_decide];omega)).mono (by
   rintro e w'⟨rfl,rfl⟩;have l:=h.set 0 (.int .i64 ((m:Int)-k-1));rw[show(m:Int)-k-1=(m:Int)-(k+1:Nat) by omega] at l ⊢
   exact⟨rfl,l,(Only.refl _ W).setIn ⟨.inr rfl,d⟩ _⟩)) (by rw[show(m:Int)-(0:Nat)=m by omega];exact q) hS j f v u
end Go.Proofs.YtoaojdobjinhfaaGreatDoor
