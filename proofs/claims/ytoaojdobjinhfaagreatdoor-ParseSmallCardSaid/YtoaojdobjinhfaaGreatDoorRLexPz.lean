/- The reference's Lex, walked: what it gives is what the bytes say. No condition but the size that every string has. -/
import Derived.Test.YtoaojdobjinhfaaGreatDoorRegionPz
set_option linter.unusedSimpArgs false
set_option linter.unusedVariables false
set_option maxRecDepth 100000
set_option maxHeartbeats 16000000
namespace Go.Proofs.YtoaojdobjinhfaaGreatDoor
open Go.RowKit

def bstr (l : List UInt8) : ByteArray := ⟨l.toArray⟩
def Tok.cells (t : Tok) : List Value := [.int .u8 t.kind, .string (bstr t.text), .int .i64 t.n, .int .i64 t.line, .int .i64 t.col]
def Toks (w : World) (l : List Tok) (v : Value) : Prop := Sl w 5 l.length (l.flatMap Tok.cells) v
theorem zcM:(Tryz.prog.info? 93).map (fun i=>(i.zero,i.size,i.bytes))=some (some (.agg #[.int .u8 0,.string ByteArray.empty,.int .i64 0,.int .i64 0,.int .i64 0]),5,48):=by kernel_rfl
def LexE (w' : World) (e : Ending) : LexR -> Prop
  | .ok l => ∃ r, e = .returned (.tuple #[r, .int .i64 0, .int .i64 0, .int .i64 0]) /\ Toks w' l r
  | .err a b c => e = .returned (.tuple #[.slice none 0 0, .int .i64 a, .int .i64 b, .int .i64 c])
theorem zbk(s:ByteArray)(i j:Nat):s.extract i j=bstr ((s.data.toList.drop i).take (j-i)):=by
 have h:=zbX s i j;unfold bstr;rw[<-h]
theorem za2(s:ByteArray){k:Nat}(h:k<s.size):s.data.toList.drop k=s[k]::s.data.toList.drop (k+1):=by
 rw[List.drop_eq_getElem_cons (by rw[zaq];exact h),zdH s k h]
theorem zdf(s:ByteArray){k:Nat}(h:s.size<=k):s.data.toList.drop k=[]:=List.drop_of_length_le (by rw[zaq];exact h)

theorem ziB(s:ByteArray){a e:Nat}(u:a<s.size)(l:a<=e)(q:e<=s.size)(g:∀(j:Nat) (h:j<s.size),a<=j->j<e->zaf s[j]=true)(f:∀h:e<s.size,zaf s[e]=false) :
  (s.data.toList.drop a).takeWhile zaf=(s.data.toList.drop a).take (e-a)/\((s.data.toList.drop a).takeWhile zaf).length=e-a:=by
 have m:(s.data.toList.drop a).length=s.size-a:=by rw[List.length_drop,zaq]
 have d:(s.data.toList.drop a).takeWhile zaf=(s.data.toList.drop a).take (e-a):=by
  refine zhn (by omega) (fun j h hj=>?_) (fun h=>?_)
  ·rw[List.getElem_drop];exact g (a+j) (by omega) (by omega) (by omega)
  ·rw[List.getElem_drop];have i:a+(e-a)=e:=by omega
   have:=f (by omega);simp only[i];exact this
 exact⟨d,by rw[d,List.length_take,m];omega⟩
theorem zgx(l:List UInt8):zag l<=l.length/\zag l<=2:=by
 match l with
 | []=>exact⟨zr _,by decide⟩
 | [a]=>rw[zag];split <;> simp
 | a::b::r =>
  rw[zag];split
  ·simp
  ·split <;> simp
theorem zdB{w:World}{base:Nat}{e:TypeId}{sz:Nat}{v:Value}{n:Nat}{xs:List Value}(h:w.ownsRow base e sz v n xs){g:Nat}(m:∀b,v.ownBlock=some b->b≠g)(i:Nat)(x:Value):(w.setCell ⟨g,i,none⟩ x).ownsRow base e sz v n xs:=by
 obtain⟨q,l⟩:=h;refine⟨q,?_⟩;rcases l with z|⟨b,cap,f,j,y,u,d⟩
 ·exact .inl z
 ·refine .inr ⟨b,cap,f,j,y,?_,d⟩;rw[Below.heap_setCell _ _ _ _ (by show b≠g;exact m b (by rw[j];rfl))];exact u

theorem zkB (s:ByteArray) (w:World) (hs:s.size<=9223372036854775807) :
  Calls Tryz.prog 70 #[.string s] w fun e w'=>LexE w' e (lexS s.data.toList)/\Below w.heap.size w w':=by
 by_cases hl:s.size<=16384
 ·have a8:¬ (16384:Int) < s.size:=by omega
  have Hf:Hid (lexS s.data.toList=(zbr (s.size+1) (s.data.toList.drop 0) 1 1).pre []):=zh (by rw[LexR.pre_nil,List.drop_zero,lexS,zaq,yN (by omega)]);generalize lexS s.data.toList=z at Hf ⊢;go_enter Tryz.func70,Tryz.ntmps70
  go_wp2;go_loopw [2,3,4,5,6,7,8,9,10,11,12,13,14,18,19,20,21,22,23,24,25,26,27,28,29,30,31,32,33,34,35,36,37,38,39,40,41,42,43,44,45,46,47,48,49,50,51,52,53,54,55,56,57,58,59,60,61,62,63,64,65,66,67,68,69,70,71,72,73,74,75,76,77,78,79,80,81,82,83,84,85,86,87,88,89,90,91,92,93,94,95,96,97,98,99,100,101,102,103,104,105,106,107,108,109,110,111,112,113,114,115,116,117,118,119,120,121,122,123,124,125,126,127,128,129,130,131,132,133,134,135,136,137,138,139,140,141,142,143,144,145,146,147,148,149,150,151,152,153,154,155,156,157,158,159,160,161,162] (fun _ _ _ _ t6 t7 t8 t9 _ _ _ _ _ _ _ _ _ _ _ _ _ _ _ _ _ _ _ _ _ _ _ _ _ _ _ _ _ _ _ _ _ _ _ _ _ _ _ _ _ _ _ _ _ _ _ _ _ _ _ _ _ _ _ _ _ _ _ _ _ _ _ _ _ _ _ _ _ _ _ _ _ _ _ _ _ _ _ _ _ _ _ _ _ _ _ _ _ _ _ _ _ _ _ _ _ _ _ _ _ _ _ _ _ _ _ _ _ _ _ _ _ _ _ _ _ _ _ _ _ _ _ _ _ _ _ _ _ _ _ _ _ _ _ _ _ _ _ _ _ _ _ _ _ _ _ _ _ _ wr=>∃(at' line first f:Nat) (ts:List Tok),at'<=s.size/\first<=at'/\line<=at'+1/\s.size<f+at'/\ts.length<=at'/\t9=.int .i64 at'/\t7=.int .i64 line/\t8=.int .i64 first/\wr.ownsRow w.heap.size 93 5 t6 ts.length (ts.flatMap Tok.cells)/\Hid (z=(zbr f (s.data.toList.drop at') (line:Int) ((at':Int)-first+1)).pre ts)/\Below w.heap.size w wr) (fun _ _ _ _ _ _ _ t9 _ _ _ _ _ _ _ _ _ _ _ _ _ _ _ _ _ _ _ _ _ _ _ _ _ _ _ _ _ _ _ _ _ _ _ _ _ _ _ _ _ _ _ _ _ _ _ _ _ _ _ _ _ _ _ _ _ _ _ _ _ _ _ _ _ _ _ _ _ _ _ _ _ _ _ _ _ _ _ _ _ _ _ _ _ _ _ _ _ _ _ _ _ _ _ _ _ _ _ _ _ _ _ _ _ _ _ _ _ _ _ _ _ _ _ _ _ _ _ _ _ _ _ _ _ _ _ _ _ _ _ _ _ _ _ _ _ _ _ _ _ _ _ _ _ _ _ _ _ _ _=>s.size+1-(intOf t9).toNat)
  case atStart=>exact⟨0,1,0,s.size+1,[],by omega,by omega,by omega,by omega,by simp,rfl,rfl,rfl,World.ownsRow_nil _ _ _ _,zh Hf.out,yR _ _⟩
  case round =>
   obtain⟨at',line,first,f,ts,a9,bh,bc,hf,bE,rfl,rfl,rfl,hown,aD,hb⟩:=hrel;obtain⟨wo,rfl⟩:∃wo:World,wo=wr:=⟨_,rfl⟩;obtain⟨oa,ad,rfl,_,_⟩:=(Sl.of_own hown).form;have H:=zh hown;have M:=zh hb;obtain⟨S,rfl⟩:∃S,f=S+1:=⟨f-1,by omega⟩;have HT:Hid (∃T,zam (s.data.toList.drop at') false (line:Int) ((at':Int)-first+1)=T/\z=(zaK (zbr S) T.1 T.2.1 T.2.2).pre ts):=zh ⟨_,rfl,aD.out⟩;obtain⟨T,aT,aX⟩:=HT.out;have bi:=zh aT;have aW:=zh aX;clear hown hb aT aX HT aD;go_wp2_with fail
   go_loopw [7,8,9,18,19,20,21,22,23,24,25,26,27,28,29,30,31,32,33,34,35,36,37,38,39,40,41,42,43,44,45,46,47,48,49,50,51,52,53,54,55,56,57,58,59,60,61,62,63,64,65,66,67,68,69,70,71] (fun t7 t8 t9 _ _ _ _ _ _ _ _ _ _ _ _ _ _ _ _ _ _ _ _ _ _ _ _ _ _ _ _ _ _ _ _ _ _ _ _ _ _ _ _ _ _ _ _ _ _ _ _ _ _ _ _ _ _ wr=>∃at2 g d:Nat,at'<=at2/\at2<=s.size/\d<=at2/\g<=at2+1/\t9=.int .i64 at2/\t7=.int .i64 g/\t8=.int .i64 d/\Hid (zam (s.data.toList.drop at2) false (g:Int) ((at2:Int)-d+1)=T)/\wr=wo) (fun _ _ t9 _ _ _ _ _ _ _ _ _ _ _ _ _ _ _ _ _ _ _ _ _ _ _ _ _ _ _ _ _ _ _ _ _ _ _ _ _ _ _ _ _ _ _ _ _ _ _ _ _ _ _ _ _ _ _=>s.size+1-(intOf t9).toNat)
   case atStart=>exact⟨at',line,first,by omega,a9,bh,bc,rfl,rfl,rfl,zh bi.out,rfl⟩
   case round =>
    obtain⟨at2,g,d,bw,bu,bt,bs,rfl,rfl,rfl,R,rfl⟩:=hrel;by_cases aO:at2<s.size
    ·have aQ:(at2:Int) < s.size:=by omega
     have A:=zh (za2 s aO);have bf:s[at2].toNat<=255:=by have:=s[at2].toNat_lt;omega
     obtain⟨Z,p9,af,aA,bz,q9,bC,bv,aG,a1,aE,aH⟩:∃Z p9 af aA:Bool,((s[at2].toNat:Int)==32)=Z/\((s[at2].toNat:Int)==9)=p9/\((s[at2].toNat:Int)==10)=af/\((s[at2].toNat:Int)==35)=aA/\(Z=true ↔ s[at2].toNat=32)/\(p9=true ↔ s[at2].toNat=9)/\(af=true ↔ s[at2].toNat=10)/\(aA=true ↔ s[at2].toNat=35):=by
      refine⟨_,_,_,_,rfl,rfl,rfl,rfl,?_,?_,?_,?_⟩ <;> rw[beq_iff_eq] <;> omega
     generalize hx:s[at2]=x at *
     have Hx:=zh hx;have W:=zh (And.intro aG (And.intro a1 (And.intro aE aH)));clear aG a1 aE aH;cases aA
     ·cases af
      ·cases Z <;> cases p9
       ·have aZ:zam (s.data.toList.drop at2) false (g:Int) ((at2:Int) - d+1)=(s.data.toList.drop at2,(g:Int),(at2:Int) - d+1):=by
         rw[A.out];exact zcu (fun h=>by have:=W.out.2.2.1.2 h;cases this) (fun h=>by have:=W.out.1.2 h;cases this) (fun h=>by have:=W.out.2.1.2 h;cases this) (fun h=>by have:=W.out.2.2.2.2 h;cases this)
        have az:Hid (T=(s.data.toList.drop at2,(g:Int),(at2:Int)-d+1)):=zh (R.out.symm.trans aZ);clear aZ R W;have be:((at2:Int)==(s.size:Int))=false:=by rw[beq_eq_false_iff_ne];omega
        have L:Hid (z=(zaK (zbr S) (x::s.data.toList.drop (at2+1)) (g:Int) ((at2:Int)-d+1)).pre ts):=zh (by
         have h:=aW.out;rw[az.out] at h;simp only at h;rw[A.out] at h
         exact h)
        clear az;obtain⟨E,rfl⟩:∃E:World,E=wr:=⟨_,rfl⟩;go_wp2_with fail
        go_loopw [11,87,88,89,90,91,92,93,94,95,96,97,98,99,100,101,102,103,104] (fun t11 _ _ _ _ _ _ _ _ _ _ _ _ _ _ _ _ _ _ wr=>∃e:Nat,at2<=e/\e<=s.size/\t11=.int .i64 e/\Hid (∀(j:Nat) (h:j<s.size),at2<=j->j<e->zaf s[j]=true)/\wr=E.alloc (.cells #[.int .u8 4,.string ByteArray.empty,.int .i64 0,.int .i64 (g:Int),.int .i64 ((at2:Int)-d+1)] 93)) (fun t11 _ _ _ _ _ _ _ _ _ _ _ _ _ _ _ _ _ _ _=>s.size-(intOf t11).toNat)
        case atStart=>exact⟨at2,by omega,by omega,rfl,zh (by intro j _ h1 h2;omega),by first|rfl|trivial⟩
        case round =>
         obtain⟨e,he,a6,rfl,He,rfl⟩:=hrel;by_cases bD:e<s.size
         ·have a5:(e:Int) < s.size:=by omega
          have HL:=zh (zc1 (s[e].toNat:Int) (E.alloc (.cells #[.int .u8 4,.string ByteArray.empty,.int .i64 0,.int .i64 (g:Int),.int .i64 ((at2:Int)-d+1)] 93)));have HD:=zh (zcP (s[e].toNat:Int) (E.alloc (.cells #[.int .u8 4,.string ByteArray.empty,.int .i64 0,.int .i64 (g:Int),.int .i64 ((at2:Int)-d+1)] 93)));obtain⟨pl,pd,a2,aP,aU⟩:∃pl pd:Bool,zaV (s[e].toNat:Int)=pl/\za9 (s[e].toNat:Int)=pd/\zaf s[e]=(pl||pd):=⟨_,_,rfl,rfl,rfl⟩;rw[a2] at HL;rw[aP] at HD;have aK:=zh aU;have bx:s[e].toNat<=255:=by have:=s[e].toNat_lt;omega
          clear a2 aP aU;cases pl
          ·cases pd
           ·go_wp2_with fail
            go_at_call 80;refine HL.out.mono ?_;rintro e1 w2⟨rfl,rfl⟩;go_wp2_with fail
            go_at_call 81;refine HD.out.mono ?_;rintro e1 w2⟨rfl,rfl⟩;go_wp2_with fail
            have F:=zh (ziB s aO he a6 He.out (fun _=>aK.out));rw[A.out] at F;have ak:=zh (zc1 (x.toNat:Int) (E.alloc (.cells #[.int .u8 4,.string ByteArray.empty,.int .i64 0,.int .i64 (g:Int),.int .i64 ((at2:Int)-d+1)] 93)));have ai:=zh (zcP (x.toNat:Int) (E.alloc (.cells #[.int .u8 4,.string ByteArray.empty,.int .i64 0,.int .i64 (g:Int),.int .i64 ((at2:Int)-d+1)] 93)));obtain⟨px,py,ag,aj,ap,am⟩:∃px py:Bool,zaV (x.toNat:Int)=px/\za9 (x.toNat:Int)=py/\zaH x=px/\zaG x=py:=⟨_,_,rfl,rfl,rfl,rfl⟩;rw[ag] at ak;rw[aj] at ai;have I:=zh ap;have U:=zh am;clear ag aj ap am;go_at_call 80;refine ak.out.mono ?_;rintro e1 w2⟨rfl,rfl⟩
            cases px with
            | true =>
             obtain⟨q,hq,X⟩:∃q:Bool,decide ((e:Int)-at2>24)=q/\(q=true ↔ 24<e-at2):=⟨_,rfl,by rw[yQ];omega⟩;have Hq:=zh X;clear X;cases q
             ·have D:Hid (z=(zbr S (s.data.toList.drop e) (g:Int) ((e:Int)-d+1)).pre (ts++[⟨1,(s.data.toList.drop at2).take (e-at2),0,(g:Int),(at2:Int)-d+1⟩])):=zh (by
               rw[L.out,zaK,yP I.out,F.out.2,yN (fun h=>by have:=Hq.out.2 h;cases this),LexR.pre_cons,F.out.1,A.out];congr 2
               ·rw[<-A.out,List.drop_drop];congr 1;omega
               ·omega)
              have B:=H.out.alloc (.cells #[.int .u8 1,.string (s.extract at2 e),.int .i64 0,.int .i64 (g:Int),.int .i64 ((at2:Int)-d+1)] 93);have l:=M.out.alloc M.out.size (.cells #[.int .u8 1,.string (s.extract at2 e),.int .i64 0,.int .i64 (g:Int),.int .i64 ((at2:Int)-d+1)] 93);have N:=zh (zbk s at2 e)
              have aL:at2<e:=by
               refine Nat.lt_of_le_of_ne he (fun h=>?_);have h2:=F.out.2;rw[List.takeWhile_cons,yP (by rw[zaf,I.out];rfl)] at h2;simp at h2;omega
              have aN:(at2:Int)<=e:=by omega
              have ar:(e:Int)<=s.size:=by omega
              go_wp2_with (at_builtin;refine zbm rfl (.tmp 158) (.tmp 160) 90 rfl B zcM Tryz.underlying90 rfl (by decide) rfl 1 1 (by show Value.slice (some ⟨E.heap.size+1,0,none⟩) 1 1=_;simp) rfl rfl (by unfold maxLen;omega) (by omega) l.size ?_;intro v' w3 m ae K)
              go_roundw
              case rel =>
               refine⟨e,g,d,S,ts++[⟨1,(s.data.toList.drop at2).take (e-at2),0,(g:Int),(at2:Int)-d+1⟩],by omega,by omega,by omega,by omega,by simp;omega,rfl,rfl,rfl,?_,zh D.out,l.trans K⟩;rw[N.out] at m;rw[yA,List.flatMap_append];exact m
              case measure=>simp[intOf];omega
             ·have D:Hid (z=.err (g:Int) ((at2:Int)-d+1) 111):=zh (by
               rw[L.out,zaK,yP I.out,F.out.2,yP (Hq.out.1 rfl)]
               rfl)
              have J:=OwnV.new E 93 [.int .u8 1,.string ByteArray.empty,.int .i64 0,.int .i64 (g:Int),.int .i64 ((at2:Int)-d+1)];have l:=M.out.alloc M.out.size (.cells #[.int .u8 1,.string ByteArray.empty,.int .i64 0,.int .i64 (g:Int),.int .i64 ((at2:Int)-d+1)] 93);go_wp2_with fail
              generalize E.alloc (.cells #[.int .u8 1,.string ByteArray.empty,.int .i64 0,.int .i64 (g:Int),.int .i64 ((at2:Int)-d+1)] 93)=w8 at *
              have c3:=J.cell (i:=3) rfl;have Y:=J.cell (i:=4) rfl;have G:=zh l;clear J l;refine zac (fun w'=>Below w8.heap.size w8 w') (by kernel_rfl) (by kernel_rfl) ((yR _ _).drew) ?_
              repeat
               try simp only[Act.put,zs1,zs3,zs2]
               apply stepsSeq.cons
               ·intro w' l;have u:=zh l;have av:=Below.keep l c3;have ay:=Below.keep l Y;simp only[Act.put,zs1,zs3,zs2];go_wp2_with (fail)
                first|exact⟨rfl,u.out⟩|exact⟨rfl,u.out.trans (hb2.mono u.out.size)⟩
              try simp only[Act.put,zs1,zs3,zs2]
              refine stepsSeq.nil ?_;intro w' l;clear c3 Y;go_wp2
              exact yE (v:=.tuple #[.slice none 0 0,.int .i64 (g:Int),.int .i64 ((at2:Int)-d+1),.int .i64 111]) (by simp[results,Tryz.results70,go_sem]) rfl ⟨by rw[D.out];rfl,G.out.trans (l.mono G.out.size)⟩
            | false =>
             go_wp2_with fail
             go_at_call 81;refine ai.out.mono ?_;rintro e1 w2⟨rfl,rfl⟩
             cases py with
             | true =>
              have aL:at2<e:=by
               refine Nat.lt_of_le_of_ne he (fun h=>?_);have h2:=F.out.2;rw[List.takeWhile_cons,yP (by rw[zaf,U.out];simp)] at h2;simp at h2;omega
              have aN:(at2:Int)<=e:=by omega
              have ar:(e:Int)<=s.size:=by omega
              have N:=zh (zbk s at2 e);have ac:Hid ((s.extract at2 e).data.toList=(x::s.data.toList.drop (at2+1)).takeWhile zaf):=zh (by rw[zbX,F.out.1,A.out])
              have Q:=zh (zg2 (s.extract at2 e) (E.alloc (.cells #[.int .u8 4,.string ByteArray.empty,.int .i64 0,.int .i64 (g:Int),.int .i64 ((at2:Int)-d+1)] 93)) (by
               have h:=zaq (s.extract at2 e);rw[zbX,List.length_take,List.length_drop,zaq] at h
               omega))
              rw[ac.out] at Q
              cases hvr:zaS ((x::s.data.toList.drop (at2+1)).takeWhile zaf) with
              | none =>
               have D:Hid (z=.err (g:Int) ((at2:Int)-d+1) 112):=zh (by
                rw[L.out,zaK,yN (by rw[I.out];decide),yP U.out,hvr]
                rfl)
               rw[hvr] at Q;clear hvr;go_wp2_with fail
               go_at_call 110;refine Q.out.mono ?_;rintro e1 w2⟨rfl,rfl⟩;unfold numE;have J:=OwnV.new E 93 [.int .u8 4,.string ByteArray.empty,.int .i64 0,.int .i64 (g:Int),.int .i64 ((at2:Int)-d+1)];have l:=M.out.alloc M.out.size (.cells #[.int .u8 4,.string ByteArray.empty,.int .i64 0,.int .i64 (g:Int),.int .i64 ((at2:Int)-d+1)] 93);go_wp2_with fail
               generalize E.alloc (.cells #[.int .u8 4,.string ByteArray.empty,.int .i64 0,.int .i64 (g:Int),.int .i64 ((at2:Int)-d+1)] 93)=w8 at *
               have c3:=J.cell (i:=3) rfl;have Y:=J.cell (i:=4) rfl;have G:=zh l;clear J l;refine zac (fun w'=>Below w8.heap.size w8 w') (by kernel_rfl) (by kernel_rfl) ((yR _ _).drew) ?_
               repeat
                try simp only[Act.put,zs1,zs3,zs2]
                apply stepsSeq.cons
                ·intro w' l;have u:=zh l;have av:=Below.keep l c3;have ay:=Below.keep l Y;simp only[Act.put,zs1,zs3,zs2];go_wp2_with (fail)
                 first|exact⟨rfl,u.out⟩|exact⟨rfl,u.out.trans (hb2.mono u.out.size)⟩
               try simp only[Act.put,zs1,zs3,zs2]
               refine stepsSeq.nil ?_;intro w' l;clear c3 Y;go_wp2
               exact yE (v:=.tuple #[.slice none 0 0,.int .i64 (g:Int),.int .i64 ((at2:Int)-d+1),.int .i64 112]) (by simp[results,Tryz.results70,go_sem]) rfl ⟨by rw[D.out];rfl,G.out.trans (l.mono G.out.size)⟩
              | some n =>
               have D:Hid (z=(zbr S (s.data.toList.drop e) (g:Int) ((e:Int)-d+1)).pre (ts++[⟨2,(s.data.toList.drop at2).take (e-at2),n,(g:Int),(at2:Int)-d+1⟩])):=zh (by
                rw[L.out,zaK,yN (by rw[I.out];decide),yP U.out,hvr];simp only;rw[F.out.2,LexR.pre_cons,F.out.1,A.out];congr 2
                ·rw[<-A.out,List.drop_drop];congr 1;omega
                ·omega)
               rw[hvr] at Q;clear hvr;have B:=H.out.alloc (.cells #[.int .u8 2,.string (s.extract at2 e),.int .i64 n,.int .i64 (g:Int),.int .i64 ((at2:Int)-d+1)] 93);have l:=M.out.alloc M.out.size (.cells #[.int .u8 2,.string (s.extract at2 e),.int .i64 n,.int .i64 (g:Int),.int .i64 ((at2:Int)-d+1)] 93);go_wp2_with fail
               go_at_call 110;refine Q.out.mono ?_;rintro e1 w2⟨rfl,rfl⟩;unfold numE;go_wp2_with (at_builtin;refine zbm rfl (.tmp 158) (.tmp 160) 90 rfl B zcM Tryz.underlying90 rfl (by decide) rfl 1 1 (by show Value.slice (some ⟨E.heap.size+1,0,none⟩) 1 1=_;simp) rfl rfl (by unfold maxLen;omega) (by omega) l.size ?_;intro v' w3 m ae K)
               go_roundw
               case rel =>
                refine⟨e,g,d,S,ts++[⟨2,(s.data.toList.drop at2).take (e-at2),n,(g:Int),(at2:Int)-d+1⟩],by omega,by omega,by omega,by omega,by simp;omega,rfl,rfl,rfl,?_,zh D.out,l.trans K⟩;rw[N.out] at m;rw[yA,List.flatMap_append];exact m
               case measure=>simp[intOf];omega
             | false =>
              have aI:Hid ((s.extract at2 s.size).data.toList=x::s.data.toList.drop (at2+1)):=zh (by rw[zbX,<-A.out,List.take_of_length_le (by rw[List.length_drop,zaq];omega)])
              have aJ:(s.extract at2 s.size).size=s.size-at2:=by
               have h:=zaq (s.extract at2 s.size);rw[zbX,List.length_take,List.length_drop,zaq] at h;omega
              have ao:=zh (ziO (s.extract at2 s.size) (E.alloc (.cells #[.int .u8 4,.string ByteArray.empty,.int .i64 0,.int .i64 (g:Int),.int .i64 ((at2:Int)-d+1)] 93)) (by omega) (by omega));rw[aI.out] at ao;have ar:(at2:Int)<=s.size:=by omega
              clear aJ;have ab:=zgx (x::s.data.toList.drop (at2+1))
              have aV:at2+zag (x::s.data.toList.drop (at2+1))<=s.size:=by
               have h:=ab.1;rw[<-A.out,List.length_drop,zaq] at h;rw[<-A.out];omega
              have aS:=ab.2
              have ah:Hid (zaK (zbr S) (x::s.data.toList.drop (at2+1)) (g:Int) ((at2:Int)-d+1)=if zag (x::s.data.toList.drop (at2+1))=0 then .err (g:Int) ((at2:Int)-d+1) 110 else(zbr S ((x::s.data.toList.drop (at2+1)).drop (zag (x::s.data.toList.drop (at2+1)))) (g:Int) ((at2:Int)-d+1+zag (x::s.data.toList.drop (at2+1)))).cons ⟨3,(x::s.data.toList.drop (at2+1)).take (zag (x::s.data.toList.drop (at2+1))),0,(g:Int),(at2:Int)-d+1⟩):=zh (by
               rw[zaK,yN (by rw[I.out];decide),yN (by rw[U.out];decide)])
              generalize zag (x::s.data.toList.drop (at2+1))=sl at *
              clear ab;go_wp2_with fail
              go_at_call 111;refine ao.out.mono ?_;rintro e1 w5⟨rfl,V⟩;have aw:w.heap.size<=E.heap.size:=M.out.size;have J:=(OwnV.new E 93 [.int .u8 4,.string ByteArray.empty,.int .i64 0,.int .i64 (g:Int),.int .i64 ((at2:Int)-d+1)]).below V (zr _);have O:=zbu (H.out.alloc (.cells #[.int .u8 4,.string ByteArray.empty,.int .i64 0,.int .i64 (g:Int),.int .i64 ((at2:Int)-d+1)] 93)) V (zr _);have ax:=(M.out.alloc M.out.size (.cells #[.int .u8 4,.string ByteArray.empty,.int .i64 0,.int .i64 (g:Int),.int .i64 ((at2:Int)-d+1)] 93)).trans (V.mono (by simp;omega));have an:∀b,(Value.slice oa ts.length ad).ownBlock=some b->b≠E.heap.size:=fun b hb'=>by have:=(H.out.lt b hb').2;omega
              obtain⟨c0,c1,c2,c3,Y⟩:=yc5 J;have f0:=J.free 0;have f1:=J.free 1;have G:=zh ax;have aa:=zh O;have au:=zh an;have aY:=J.lt;clear V J O ax an;rcases Nat.eq_zero_or_pos sl with h0|h0
              ·have D:Hid (z=.err (g:Int) ((at2:Int)-d+1) 110):=zh (by
                rw[L.out,ah.out,yP h0]
                rfl)
               have hz:((sl:Int)==0)=true:=by simp[h0]
               clear h0;go_wp2_with fail
               refine zac (fun w'=>Below w5.heap.size w5 w') (by kernel_rfl) (by kernel_rfl) ((yR _ _).drew) ?_
               repeat
                try simp only[Act.put,zs1,zs3,zs2]
                apply stepsSeq.cons
                ·intro w' l;have u:=zh l;have av:=Below.keep l c3;have ay:=Below.keep l Y;simp only[Act.put,zs1,zs3,zs2];go_wp2_with (fail)
                 first|exact⟨rfl,u.out⟩|exact⟨rfl,u.out.trans (hb2.mono u.out.size)⟩
               try simp only[Act.put,zs1,zs3,zs2]
               refine stepsSeq.nil ?_;intro w' l;clear c0 c1 c2 c3 Y f0 f1;go_wp2;exact yE (v:=.tuple #[.slice none 0 0,.int .i64 (g:Int),.int .i64 ((at2:Int)-d+1),.int .i64 110]) (by simp[results,Tryz.results70,go_sem]) rfl ⟨by rw[D.out];rfl,G.out.trans (l.mono G.out.size)⟩
              ·have D:Hid (z=(zbr S (s.data.toList.drop (at2+sl)) (g:Int) (((at2+sl:Nat):Int)-d+1)).pre (ts++[⟨3,(s.data.toList.drop at2).take (at2+sl-at2),0,(g:Int),(at2:Int)-d+1⟩])):=zh (by
                rw[L.out,ah.out,yN (by omega),LexR.pre_cons,A.out,Nat.add_sub_cancel_left];congr 2
                ·rw[<-A.out,List.drop_drop]
                ·omega)
               have hz:((sl:Int)==0)=false:=by rw[beq_eq_false_iff_ne];omega
               have bo:(at2:Int)+sl<=s.size:=by omega
               have bg:(at2:Int)<=(at2:Int)+sl:=by omega
               have a7:((at2:Int)+(sl:Int)).toNat=at2+sl:=by omega
               have bn:(0:Int)<=(at2:Int)+sl:=by omega
               have B:(((w5.setCell ⟨E.heap.size,0,none⟩ (.int .u8 3)).setCell ⟨E.heap.size,1,none⟩ (.string (s.extract at2 (at2+sl))))).ownsRow w.heap.size 93 5 (.slice oa ts.length ad) ts.length (ts.flatMap Tok.cells):=zdB (zdB aa.out au.out 0 _) au.out 1 _;have l:Below w.heap.size w ((w5.setCell ⟨E.heap.size,0,none⟩ (.int .u8 3)).setCell ⟨E.heap.size,1,none⟩ (.string (s.extract at2 (at2+sl)))):=(G.out.setCell (p:=Addr.mk E.heap.size 0 none) aw _).setCell (p:=Addr.mk E.heap.size 1 none) aw _;have N:=zh (zbk s at2 (at2+sl));have ba:((w5.setCell ⟨E.heap.size,0,none⟩ (.int .u8 3)).setCell ⟨E.heap.size,1,none⟩ (.string (s.extract at2 (at2+sl)))).heap.size=w5.heap.size:=by simp
               go_wp2_with (at_builtin;refine zbm rfl (.tmp 158) (.tmp 160) 90 rfl B zcM Tryz.underlying90 rfl (by decide) rfl 1 1 (by show Value.slice (some ⟨w5.heap.size,0,none⟩) 1 1=_;simp) rfl rfl (by unfold maxLen;omega) (by omega) l.size ?_;intro v' w3 m ae K)
               go_roundw
               case rel =>
                refine⟨at2+sl,g,d,S,ts++[⟨3,(s.data.toList.drop at2).take (at2+sl-at2),0,(g:Int),(at2:Int)-d+1⟩],by omega,by omega,by omega,by omega,by simp;omega,by go_num,rfl,rfl,?_,zh D.out,l.trans K⟩;rw[N.out] at m;rw[yA,List.flatMap_append];exact m
               case measure=>simp[intOf];omega
           ·go_wp2_with (first|(go_at_call 80;refine HL.out.mono ?_;rintro e1 w2⟨rfl,rfl⟩)|(go_at_call 81;refine HD.out.mono ?_;rintro e1 w2⟨rfl,rfl⟩))
            go_roundw
            case rel =>
             refine⟨e+1,by omega,by omega,by go_num,zh (fun j hj h1 h2=>?_),by first|rfl|trivial⟩;rcases Nat.lt_or_ge j e with h|h
             ·exact He.out j hj h1 h
             ·obtain rfl:j=e:=by omega
              exact aK.out
            case measure=>simp[intOf];omega
          ·go_wp2_with (first|(go_at_call 80;refine HL.out.mono ?_;rintro e1 w2⟨rfl,rfl⟩)|(go_at_call 81;refine HD.out.mono ?_;rintro e1 w2⟨rfl,rfl⟩))
           go_roundw
           case rel =>
            refine⟨e+1,by omega,by omega,by go_num,zh (fun j hj h1 h2=>?_),by first|rfl|trivial⟩;rcases Nat.lt_or_ge j e with h|h
            ·exact He.out j hj h1 h
            ·obtain rfl:j=e:=by omega
             rw[aK.out];rfl
           case measure=>simp[intOf];omega
         ·have a5:¬ (e:Int) < s.size:=by omega
          go_wp2_with fail
          have F:=zh (ziB s aO he a6 He.out (fun h=>absurd h (by omega)));rw[A.out] at F;have ak:=zh (zc1 (x.toNat:Int) (E.alloc (.cells #[.int .u8 4,.string ByteArray.empty,.int .i64 0,.int .i64 (g:Int),.int .i64 ((at2:Int)-d+1)] 93)));have ai:=zh (zcP (x.toNat:Int) (E.alloc (.cells #[.int .u8 4,.string ByteArray.empty,.int .i64 0,.int .i64 (g:Int),.int .i64 ((at2:Int)-d+1)] 93)));obtain⟨px,py,ag,aj,ap,am⟩:∃px py:Bool,zaV (x.toNat:Int)=px/\za9 (x.toNat:Int)=py/\zaH x=px/\zaG x=py:=⟨_,_,rfl,rfl,rfl,rfl⟩;rw[ag] at ak;rw[aj] at ai;have I:=zh ap;have U:=zh am;clear ag aj ap am;go_at_call 80;refine ak.out.mono ?_;rintro e1 w2⟨rfl,rfl⟩
          cases px with
          | true =>
           obtain⟨q,hq,X⟩:∃q:Bool,decide ((e:Int)-at2>24)=q/\(q=true ↔ 24<e-at2):=⟨_,rfl,by rw[yQ];omega⟩;have Hq:=zh X;clear X;cases q
           ·have D:Hid (z=(zbr S (s.data.toList.drop e) (g:Int) ((e:Int)-d+1)).pre (ts++[⟨1,(s.data.toList.drop at2).take (e-at2),0,(g:Int),(at2:Int)-d+1⟩])):=zh (by
             rw[L.out,zaK,yP I.out,F.out.2,yN (fun h=>by have:=Hq.out.2 h;cases this),LexR.pre_cons,F.out.1,A.out];congr 2
             ·rw[<-A.out,List.drop_drop];congr 1;omega
             ·omega)
            have B:=H.out.alloc (.cells #[.int .u8 1,.string (s.extract at2 e),.int .i64 0,.int .i64 (g:Int),.int .i64 ((at2:Int)-d+1)] 93);have l:=M.out.alloc M.out.size (.cells #[.int .u8 1,.string (s.extract at2 e),.int .i64 0,.int .i64 (g:Int),.int .i64 ((at2:Int)-d+1)] 93);have N:=zh (zbk s at2 e)
            have aL:at2<e:=by
             refine Nat.lt_of_le_of_ne he (fun h=>?_);have h2:=F.out.2;rw[List.takeWhile_cons,yP (by rw[zaf,I.out];rfl)] at h2;simp at h2;omega
            have aN:(at2:Int)<=e:=by omega
            have ar:(e:Int)<=s.size:=by omega
            go_wp2_with (at_builtin;refine zbm rfl (.tmp 158) (.tmp 160) 90 rfl B zcM Tryz.underlying90 rfl (by decide) rfl 1 1 (by show Value.slice (some ⟨E.heap.size+1,0,none⟩) 1 1=_;simp) rfl rfl (by unfold maxLen;omega) (by omega) l.size ?_;intro v' w3 m ae K)
            go_roundw
            case rel =>
             refine⟨e,g,d,S,ts++[⟨1,(s.data.toList.drop at2).take (e-at2),0,(g:Int),(at2:Int)-d+1⟩],by omega,by omega,by omega,by omega,by simp;omega,rfl,rfl,rfl,?_,zh D.out,l.trans K⟩;rw[N.out] at m;rw[yA,List.flatMap_append];exact m
            case measure=>simp[intOf];omega
           ·have D:Hid (z=.err (g:Int) ((at2:Int)-d+1) 111):=zh (by
             rw[L.out,zaK,yP I.out,F.out.2,yP (Hq.out.1 rfl)]
             rfl)
            have J:=OwnV.new E 93 [.int .u8 1,.string ByteArray.empty,.int .i64 0,.int .i64 (g:Int),.int .i64 ((at2:Int)-d+1)];have l:=M.out.alloc M.out.size (.cells #[.int .u8 1,.string ByteArray.empty,.int .i64 0,.int .i64 (g:Int),.int .i64 ((at2:Int)-d+1)] 93);go_wp2_with fail
            generalize E.alloc (.cells #[.int .u8 1,.string ByteArray.empty,.int .i64 0,.int .i64 (g:Int),.int .i64 ((at2:Int)-d+1)] 93)=w8 at *
            have c3:=J.cell (i:=3) rfl;have Y:=J.cell (i:=4) rfl;have G:=zh l;clear J l;refine zac (fun w'=>Below w8.heap.size w8 w') (by kernel_rfl) (by kernel_rfl) ((yR _ _).drew) ?_
            repeat
             try simp only[Act.put,zs1,zs3,zs2]
             apply stepsSeq.cons
             ·intro w' l;have u:=zh l;have av:=Below.keep l c3;have ay:=Below.keep l Y;simp only[Act.put,zs1,zs3,zs2];go_wp2_with (fail)
              first|exact⟨rfl,u.out⟩|exact⟨rfl,u.out.trans (hb2.mono u.out.size)⟩
            try simp only[Act.put,zs1,zs3,zs2]
            refine stepsSeq.nil ?_;intro w' l;clear c3 Y;go_wp2
            exact yE (v:=.tuple #[.slice none 0 0,.int .i64 (g:Int),.int .i64 ((at2:Int)-d+1),.int .i64 111]) (by simp[results,Tryz.results70,go_sem]) rfl ⟨by rw[D.out];rfl,G.out.trans (l.mono G.out.size)⟩
          | false =>
           go_wp2_with fail
           go_at_call 81;refine ai.out.mono ?_;rintro e1 w2⟨rfl,rfl⟩
           cases py with
           | true =>
            have aL:at2<e:=by
             refine Nat.lt_of_le_of_ne he (fun h=>?_);have h2:=F.out.2;rw[List.takeWhile_cons,yP (by rw[zaf,U.out];simp)] at h2;simp at h2;omega
            have aN:(at2:Int)<=e:=by omega
            have ar:(e:Int)<=s.size:=by omega
            have N:=zh (zbk s at2 e);have ac:Hid ((s.extract at2 e).data.toList=(x::s.data.toList.drop (at2+1)).takeWhile zaf):=zh (by rw[zbX,F.out.1,A.out])
            have Q:=zh (zg2 (s.extract at2 e) (E.alloc (.cells #[.int .u8 4,.string ByteArray.empty,.int .i64 0,.int .i64 (g:Int),.int .i64 ((at2:Int)-d+1)] 93)) (by
             have h:=zaq (s.extract at2 e);rw[zbX,List.length_take,List.length_drop,zaq] at h
             omega))
            rw[ac.out] at Q
            cases hvr:zaS ((x::s.data.toList.drop (at2+1)).takeWhile zaf) with
            | none =>
             have D:Hid (z=.err (g:Int) ((at2:Int)-d+1) 112):=zh (by
              rw[L.out,zaK,yN (by rw[I.out];decide),yP U.out,hvr]
              rfl)
             rw[hvr] at Q;clear hvr;go_wp2_with fail
             go_at_call 110;refine Q.out.mono ?_;rintro e1 w2⟨rfl,rfl⟩;unfold numE;have J:=OwnV.new E 93 [.int .u8 4,.string ByteArray.empty,.int .i64 0,.int .i64 (g:Int),.int .i64 ((at2:Int)-d+1)];have l:=M.out.alloc M.out.size (.cells #[.int .u8 4,.string ByteArray.empty,.int .i64 0,.int .i64 (g:Int),.int .i64 ((at2:Int)-d+1)] 93);go_wp2_with fail
             generalize E.alloc (.cells #[.int .u8 4,.string ByteArray.empty,.int .i64 0,.int .i64 (g:Int),.int .i64 ((at2:Int)-d+1)] 93)=w8 at *
             have c3:=J.cell (i:=3) rfl;have Y:=J.cell (i:=4) rfl;have G:=zh l;clear J l;refine zac (fun w'=>Below w8.heap.size w8 w') (by kernel_rfl) (by kernel_rfl) ((yR _ _).drew) ?_
             repeat
              try simp only[Act.put,zs1,zs3,zs2]
              apply stepsSeq.cons
              ·intro w' l;have u:=zh l;have av:=Below.keep l c3;have ay:=Below.keep l Y;simp only[Act.put,zs1,zs3,zs2];go_wp2_with (fail)
               first|exact⟨rfl,u.out⟩|exact⟨rfl,u.out.trans (hb2.mono u.out.size)⟩
             try simp only[Act.put,zs1,zs3,zs2]
             refine stepsSeq.nil ?_;intro w' l;clear c3 Y;go_wp2
             exact yE (v:=.tuple #[.slice none 0 0,.int .i64 (g:Int),.int .i64 ((at2:Int)-d+1),.int .i64 112]) (by simp[results,Tryz.results70,go_sem]) rfl ⟨by rw[D.out];rfl,G.out.trans (l.mono G.out.size)⟩
            | some n =>
             have D:Hid (z=(zbr S (s.data.toList.drop e) (g:Int) ((e:Int)-d+1)).pre (ts++[⟨2,(s.data.toList.drop at2).take (e-at2),n,(g:Int),(at2:Int)-d+1⟩])):=zh (by
              rw[L.out,zaK,yN (by rw[I.out];decide),yP U.out,hvr];simp only;rw[F.out.2,LexR.pre_cons,F.out.1,A.out];congr 2
              ·rw[<-A.out,List.drop_drop];congr 1;omega
              ·omega)
             rw[hvr] at Q;clear hvr;have B:=H.out.alloc (.cells #[.int .u8 2,.string (s.extract at2 e),.int .i64 n,.int .i64 (g:Int),.int .i64 ((at2:Int)-d+1)] 93);have l:=M.out.alloc M.out.size (.cells #[.int .u8 2,.string (s.extract at2 e),.int .i64 n,.int .i64 (g:Int),.int .i64 ((at2:Int)-d+1)] 93);go_wp2_with fail
             go_at_call 110;refine Q.out.mono ?_;rintro e1 w2⟨rfl,rfl⟩;unfold numE;go_wp2_with (at_builtin;refine zbm rfl (.tmp 158) (.tmp 160) 90 rfl B zcM Tryz.underlying90 rfl (by decide) rfl 1 1 (by show Value.slice (some ⟨E.heap.size+1,0,none⟩) 1 1=_;simp) rfl rfl (by unfold maxLen;omega) (by omega) l.size ?_;intro v' w3 m ae K)
             go_roundw
             case rel =>
              refine⟨e,g,d,S,ts++[⟨2,(s.data.toList.drop at2).take (e-at2),n,(g:Int),(at2:Int)-d+1⟩],by omega,by omega,by omega,by omega,by simp;omega,rfl,rfl,rfl,?_,zh D.out,l.trans K⟩;rw[N.out] at m;rw[yA,List.flatMap_append];exact m
             case measure=>simp[intOf];omega
           | false =>
            have aI:Hid ((s.extract at2 s.size).data.toList=x::s.data.toList.drop (at2+1)):=zh (by rw[zbX,<-A.out,List.take_of_length_le (by rw[List.length_drop,zaq];omega)])
            have aJ:(s.extract at2 s.size).size=s.size-at2:=by
             have h:=zaq (s.extract at2 s.size);rw[zbX,List.length_take,List.length_drop,zaq] at h;omega
            have ao:=zh (ziO (s.extract at2 s.size) (E.alloc (.cells #[.int .u8 4,.string ByteArray.empty,.int .i64 0,.int .i64 (g:Int),.int .i64 ((at2:Int)-d+1)] 93)) (by omega) (by omega));rw[aI.out] at ao;have ar:(at2:Int)<=s.size:=by omega
            clear aJ;have ab:=zgx (x::s.data.toList.drop (at2+1))
            have aV:at2+zag (x::s.data.toList.drop (at2+1))<=s.size:=by
             have h:=ab.1;rw[<-A.out,List.length_drop,zaq] at h;rw[<-A.out];omega
            have aS:=ab.2
            have ah:Hid (zaK (zbr S) (x::s.data.toList.drop (at2+1)) (g:Int) ((at2:Int)-d+1)=if zag (x::s.data.toList.drop (at2+1))=0 then .err (g:Int) ((at2:Int)-d+1) 110 else(zbr S ((x::s.data.toList.drop (at2+1)).drop (zag (x::s.data.toList.drop (at2+1)))) (g:Int) ((at2:Int)-d+1+zag (x::s.data.toList.drop (at2+1)))).cons ⟨3,(x::s.data.toList.drop (at2+1)).take (zag (x::s.data.toList.drop (at2+1))),0,(g:Int),(at2:Int)-d+1⟩):=zh (by
             rw[zaK,yN (by rw[I.out];decide),yN (by rw[U.out];decide)])
            generalize zag (x::s.data.toList.drop (at2+1))=sl at *
            clear ab;go_wp2_with fail
            go_at_call 111;refine ao.out.mono ?_;rintro e1 w5⟨rfl,V⟩;have aw:w.heap.size<=E.heap.size:=M.out.size;have J:=(OwnV.new E 93 [.int .u8 4,.string ByteArray.empty,.int .i64 0,.int .i64 (g:Int),.int .i64 ((at2:Int)-d+1)]).below V (zr _);have O:=zbu (H.out.alloc (.cells #[.int .u8 4,.string ByteArray.empty,.int .i64 0,.int .i64 (g:Int),.int .i64 ((at2:Int)-d+1)] 93)) V (zr _);have ax:=(M.out.alloc M.out.size (.cells #[.int .u8 4,.string ByteArray.empty,.int .i64 0,.int .i64 (g:Int),.int .i64 ((at2:Int)-d+1)] 93)).trans (V.mono (by simp;omega));have an:∀b,(Value.slice oa ts.length ad).ownBlock=some b->b≠E.heap.size:=fun b hb'=>by have:=(H.out.lt b hb').2;omega
            obtain⟨c0,c1,c2,c3,Y⟩:=yc5 J;have f0:=J.free 0;have f1:=J.free 1;have G:=zh ax;have aa:=zh O;have au:=zh an;have aY:=J.lt;clear V J O ax an;rcases Nat.eq_zero_or_pos sl with h0|h0
            ·have D:Hid (z=.err (g:Int) ((at2:Int)-d+1) 110):=zh (by
              rw[L.out,ah.out,yP h0]
              rfl)
             have hz:((sl:Int)==0)=true:=by simp[h0]
             clear h0;go_wp2_with fail
             refine zac (fun w'=>Below w5.heap.size w5 w') (by kernel_rfl) (by kernel_rfl) ((yR _ _).drew) ?_
             repeat
              try simp only[Act.put,zs1,zs3,zs2]
              apply stepsSeq.cons
              ·intro w' l;have u:=zh l;have av:=Below.keep l c3;have ay:=Below.keep l Y;simp only[Act.put,zs1,zs3,zs2];go_wp2_with (fail)
               first|exact⟨rfl,u.out⟩|exact⟨rfl,u.out.trans (hb2.mono u.out.size)⟩
             try simp only[Act.put,zs1,zs3,zs2]
             refine stepsSeq.nil ?_;intro w' l;clear c0 c1 c2 c3 Y f0 f1;go_wp2;exact yE (v:=.tuple #[.slice none 0 0,.int .i64 (g:Int),.int .i64 ((at2:Int)-d+1),.int .i64 110]) (by simp[results,Tryz.results70,go_sem]) rfl ⟨by rw[D.out];rfl,G.out.trans (l.mono G.out.size)⟩
            ·have D:Hid (z=(zbr S (s.data.toList.drop (at2+sl)) (g:Int) (((at2+sl:Nat):Int)-d+1)).pre (ts++[⟨3,(s.data.toList.drop at2).take (at2+sl-at2),0,(g:Int),(at2:Int)-d+1⟩])):=zh (by
              rw[L.out,ah.out,yN (by omega),LexR.pre_cons,A.out,Nat.add_sub_cancel_left];congr 2
              ·rw[<-A.out,List.drop_drop]
              ·omega)
             have hz:((sl:Int)==0)=false:=by rw[beq_eq_false_iff_ne];omega
             have bo:(at2:Int)+sl<=s.size:=by omega
             have bg:(at2:Int)<=(at2:Int)+sl:=by omega
             have a7:((at2:Int)+(sl:Int)).toNat=at2+sl:=by omega
             have bn:(0:Int)<=(at2:Int)+sl:=by omega
             have B:(((w5.setCell ⟨E.heap.size,0,none⟩ (.int .u8 3)).setCell ⟨E.heap.size,1,none⟩ (.string (s.extract at2 (at2+sl))))).ownsRow w.heap.size 93 5 (.slice oa ts.length ad) ts.length (ts.flatMap Tok.cells):=zdB (zdB aa.out au.out 0 _) au.out 1 _;have l:Below w.heap.size w ((w5.setCell ⟨E.heap.size,0,none⟩ (.int .u8 3)).setCell ⟨E.heap.size,1,none⟩ (.string (s.extract at2 (at2+sl)))):=(G.out.setCell (p:=Addr.mk E.heap.size 0 none) aw _).setCell (p:=Addr.mk E.heap.size 1 none) aw _;have N:=zh (zbk s at2 (at2+sl));have ba:((w5.setCell ⟨E.heap.size,0,none⟩ (.int .u8 3)).setCell ⟨E.heap.size,1,none⟩ (.string (s.extract at2 (at2+sl)))).heap.size=w5.heap.size:=by simp
             go_wp2_with (at_builtin;refine zbm rfl (.tmp 158) (.tmp 160) 90 rfl B zcM Tryz.underlying90 rfl (by decide) rfl 1 1 (by show Value.slice (some ⟨w5.heap.size,0,none⟩) 1 1=_;simp) rfl rfl (by unfold maxLen;omega) (by omega) l.size ?_;intro v' w3 m ae K)
             go_roundw
             case rel =>
              refine⟨at2+sl,g,d,S,ts++[⟨3,(s.data.toList.drop at2).take (at2+sl-at2),0,(g:Int),(at2:Int)-d+1⟩],by omega,by omega,by omega,by omega,by simp;omega,by go_num,rfl,rfl,?_,zh D.out,l.trans K⟩;rw[N.out] at m;rw[yA,List.flatMap_append];exact m
             case measure=>simp[intOf];omega
       all_goals
        have P:Hid (zam (s.data.toList.drop (at2+1)) false (g:Int) (((at2+1:Nat):Int)-d+1)=T):=zh (by
         have h:=R.out;rw[A.out,zdG (by first|exact .inl (W.out.1.1 rfl)|exact .inr (W.out.2.1.1 rfl))] at h
         rw[<-h];congr 1;omega)
        clear R W;go_wp2;go_roundw
        case rel=>exact⟨at2+1,g,d,by omega,by omega,by omega,by omega,by go_num,rfl,rfl,P,by first|rfl|trivial⟩
        case measure=>simp[intOf];omega
      ·have P:Hid (zam (s.data.toList.drop (at2+1)) false ((g+1:Nat):Int) (((at2+1:Nat):Int)-((at2+1:Nat):Int)+1)=T):=zh (by
        have h:=R.out;rw[A.out,zdF (W.out.2.2.1.1 rfl)] at h
        rw[<-h];congr 1 <;> omega)
       have aq:=W.out.2.2.1.1 rfl
       obtain⟨rfl,rfl⟩:Z=false/\p9=false:=by
        have h1:=W.out.1.1;have h2:=W.out.2.1.1;constructor
        ·cases Z
         ·rfl
         ·have:=h1 rfl;omega
        ·cases p9
         ·rfl
         ·have:=h2 rfl;omega
       clear R W aq;go_wp2;go_roundw
       case rel=>exact⟨at2+1,g+1,at2+1,by omega,by omega,by omega,by omega,by go_num,by go_num,by go_num,P,by first|rfl|trivial⟩
       case measure=>simp[intOf];omega
     ·have aR:=W.out.2.2.2.1 rfl;have a3:Hid (x.toNat≠10):=zh (by omega)
      obtain⟨rfl,rfl,rfl⟩:Z=false/\p9=false/\af=false:=by
       have h1:=W.out.1.1;have h2:=W.out.2.1.1;have h3:=W.out.2.2.1.1;refine⟨?_,?_,?_⟩
       ·cases Z
        ·rfl
        ·have:=h1 rfl;omega
       ·cases p9
        ·rfl
        ·have:=h2 rfl;omega
       ·cases af
        ·rfl
        ·have:=h3 rfl;omega
      have a4:Hid (zam (s.data.toList.drop at2) true (g:Int) ((at2:Int)-d+1)=T):=zh (by
       have h:=R.out;rw[A.out,zgK aR] at h;rw[A.out,zfj (by omega)]
       exact h)
      clear R W aR;go_wp2_with fail
      obtain⟨wp,rfl⟩:∃wp:World,wp=wr:=⟨_,rfl⟩;go_loopw [9,50,51,52,53,54,55,56,57,58,59,60,61] (fun t9 _ _ _ _ _ _ _ _ _ _ _ _ wr=>∃C:Nat,at2<=C/\C<=s.size/\t9=.int .i64 C/\Hid (zam (s.data.toList.drop C) true (g:Int) ((C:Int)-d+1)=T)/\wr=wp) (fun t9 _ _ _ _ _ _ _ _ _ _ _ _ _=>s.size-(intOf t9).toNat)
      case atStart=>exact⟨at2,by omega,by omega,rfl,zh a4.out,rfl⟩
      case round =>
       obtain⟨C,bA,br,rfl,aM,rfl⟩:=hrel;by_cases aF:C<s.size
       ·have bq:(C:Int)<s.size:=by omega
        have aC:=zh (za2 s aF);have bm:s[C].toNat<=255:=by have:=s[C].toNat_lt;omega
        have bj:Hid (∀h:C<s.size,s[C].toNat=10->C≠at2):=zh (by
         rintro h e rfl
         exact a3.out (by rw[<-Hx.out];exact e))
        obtain⟨q,q',hq,bd,bb,X⟩:∃q q':Bool,((s[C].toNat:Int) != 10)=q/\((s[C].toNat:Int)==10)=q'/\q' = !q/\(q=false ↔ s[C].toNat=10):=⟨_,_,rfl,rfl,by rw[bne,Bool.not_not],by rw[bne_eq_false_iff_eq];omega⟩;subst bb;have Hq:=zh X;have a0:=zh (bj.out aF)
        generalize hy:s[C]=y at *
        clear X;cases q <;> simp only[Bool.not_false,Bool.not_true] at bd
        ·have aq:=Hq.out.1 rfl
         have P:Hid (zam (s.data.toList.drop C) false (g:Int) ((C:Int)-d+1)=T):=zh (by
          rw[<-zfI (.inr ⟨y,_,aC.out,aq⟩)];exact aM.out)
         have be:=a0.out aq;clear aq;go_wp2;go_roundw
         case rel=>exact⟨C,g,d,by omega,by omega,by omega,by omega,rfl,rfl,rfl,P,by first|rfl|trivial⟩
         case measure=>simp[intOf];omega
        ·have bp:Hid (zam (s.data.toList.drop (C+1)) true (g:Int) (((C+1:Nat):Int)-d+1)=T):=zh (by
          have h:=aM.out;rw[aC.out,zfj (fun e=>by have:=Hq.out.2 e;cases this)] at h
          rw[<-h];congr 1;omega)
         go_wp2;go_roundw
         case rel=>exact⟨C+1,by omega,by omega,by go_num,bp,by first|rfl|trivial⟩
         case measure=>simp[intOf];omega
       ·obtain rfl:C=s.size:=by omega
        have P:Hid (zam (s.data.toList.drop s.size) false (g:Int) ((s.size:Int)-d+1)=T):=zh (by
         rw[<-zfI (.inl (zdf s (zr _)))];exact aM.out)
        go_wp2;go_roundw
        case rel=>exact⟨s.size,g,d,by omega,by omega,by omega,by omega,rfl,rfl,rfl,P,by first|rfl|trivial⟩
        case measure=>simp[intOf];omega
    ·obtain rfl:at2=s.size:=by omega
     have aQ:¬(s.size:Int)<s.size:=by omega
     have az:Hid (z=.ok (ts++[⟨4,[],0,(g:Int),(s.size:Int)-d+1⟩])):=zh (by
      have h:=aW.out;have h2:=R.out;rw[zdf s (zr _),zml] at h2;rw[<-h2] at h
      exact h)
     have B:=H.out.alloc (.cells #[.int .u8 4,.string ByteArray.empty,.int .i64 0,.int .i64 (g:Int),.int .i64 ((s.size:Int)-d+1)] 93);have l:=M.out.alloc M.out.size (.cells #[.int .u8 4,.string ByteArray.empty,.int .i64 0,.int .i64 (g:Int),.int .i64 ((s.size:Int)-d+1)] 93);clear R;go_wp2_with (at_builtin;refine zbm rfl (.tmp 82) (.tmp 84) 90 rfl B zcM Tryz.underlying90 rfl (by decide) rfl 1 1 (by show Value.slice (some ⟨wr.heap.size+1,0,none⟩) 1 1=_;simp) rfl rfl (by unfold maxLen;omega) (by omega) l.size ?_;intro v' w3 m ae K)
     exact yE (v:=.tuple #[v',.int .i64 0,.int .i64 0,.int .i64 0]) (by simp[results,Tryz.results70,go_sem]) rfl ⟨by
      rw[az.out];refine⟨v',rfl,?_⟩;have h:=Sl.of_own m;unfold Toks;rw[yA,List.flatMap_append]
      exact h,l.trans K⟩
 ·have a8:(16384:Int)<s.size:=by omega
  have Hf:Hid (lexS s.data.toList=.err 0 0 3):=zh (by rw[lexS,zaq,yP (by omega)]);go_enter Tryz.func70,Tryz.ntmps70
  go_wp2;exact yE (v:=.tuple #[.slice none 0 0,.int .i64 0,.int .i64 0,.int .i64 3]) (by simp[results,Tryz.results70,go_sem]) rfl ⟨by rw[Hf.out];rfl,yR _ _⟩
def za4 (s : List UInt8) : Bool := match s with
  | [] => false
  | b :: r => decide ((b :: r).length <= 24) && zaH b && r.all zaf
def zaa (l : List Tok) (i : Nat) : Tok := l.getD i ⟨4, [], 0, 0, 0⟩
inductive Ex where
  | mk (op : Int) (n : Int) (name : List UInt8) (args : List Ex)
inductive St where
  | mk (op : Int) (n : Int) (name : List UInt8) (e : List Ex) (body els : List St)
inductive PR (α : Type) where
  | ok (x : α) (next : Nat)
  | err (at' : Nat) (code : Int)
def PR.andThen {α β : Type} (r : PR α) (f : α -> Nat -> PR β) : PR β :=
  match r with
  | .ok x n => f x n
  | .err a c => .err a c
def PR.map {α β : Type} (g : α -> β) (r : PR α) : PR β := r.andThen fun x n => .ok (g x) n

def kindWords : List (List UInt8) := [[112, 111, 115], [118, 101, 108], [98, 111, 120], [111, 119, 110, 101, 114], [104, 105, 100, 101], [115, 99, 114, 105, 112, 116], [118, 97, 114, 115], [108, 105, 102, 101], [112, 117, 114, 115, 101], [116, 97, 103]]
def keyWords : List (List UInt8) := [[108, 101, 116], [105, 102], [101, 108, 115, 101], [119, 104, 105, 108, 101], [115, 116, 111, 112], [102, 97, 105, 108], [116, 105, 99, 107], [115, 101, 108, 102], [114, 97, 110, 100], [97, 98, 115], [109, 105, 110], [109, 97, 120]]
def zai (s : List UInt8) : List (List UInt8) -> Nat -> Nat
  | [], _ => 0
  | x :: r, k => if x = s then k + 1 else zai s r (k + 1)
def zap (s : List UInt8) : Nat := zai s kindWords 0
def zaP (s : List UInt8) : Bool := za4 s && decide (zap s = 0) && decide (zai s keyWords 0 = 0)
def signWords : List (List UInt8) := [[42], [47], [37], [43], [45], [60], [60, 61], [62], [62, 61], [61, 61], [33, 61], [38, 38], [124, 124]]
def strongs : List Nat := [0, 5, 5, 5, 4, 4, 3, 3, 3, 3, 3, 3, 2, 1]

def isS (l : List Tok) (i : Nat) (s : List UInt8) : Bool := decide ((zaa l i).kind ≠ 4) && decide ((zaa l i).text = s)
def za3 (l : List Tok) (i : Nat) : Nat := if (zaa l i).kind = 3 then zai (zaa l i).text signWords 0 else 0
def zaj (l : List Tok) (i : Nat) : Nat := strongs.getD (za3 l i) 0
def zay (l : List Tok) (i : Nat) (s : List UInt8) (opened : Nat) : PR Unit :=
  if isS l i s = false then .err i 120 else if 200 <= opened then .err i 121 else .ok () (i + 1)

def zaD (l : List Tok) (E : Nat -> Nat -> Nat -> PR Ex) : Nat -> Ex -> Nat -> Nat -> Nat -> PR Ex
  | 0, _, i, _, _ => .err i 0
  | f + 1, x, i, opened, least =>
    if zaj l i < least ∨ zaj l i = 0 then .ok x i
    else (E (i + 1) opened (zaj l i + 1)).andThen fun y j =>
      if zaj l i = 3 /\ zaj l j = 3 then .err j 120
      else zaD l E f (.mk (9 + za3 l i) 0 [] [x, y]) j opened least
def zav (l : List Tok) (E : Nat -> Nat -> Nat -> PR Ex) (opened : Nat) (stop : List UInt8) : Nat -> List Ex -> Nat -> PR (List Ex)
  | 0, xs, i => if isS l i stop = true then .ok xs (i + 1) else .err i 120
  | m + 1, xs, i =>
    if xs = [] then (E i (opened + 1) 1).andThen fun x j => zav l E opened stop m [x] j
    else if isS l i ([44] /- , -/) = false then .err i 120
    else (E (i + 1) (opened + 1) 1).andThen fun x j => zav l E opened stop m (xs ++ [x]) j
def zad (l : List Tok) (E : Nat -> Nat -> Nat -> PR Ex) (i opened : Nat) (start stop : List UInt8) (many : Nat) : PR (List Ex) :=
  (zay l i start opened).andThen fun _ j => zav l E opened stop many [] j
def callWords : List (List UInt8) := [[114, 97, 110, 100], [97, 98, 115], [109, 105, 110], [109, 97, 120]]
def callOps : List Int := [0, 6, 9, 23, 24]
def zah (l : List Tok) (E : Nat -> Nat -> Nat -> PR Ex) (i opened : Nat) : PR Ex :=
  if (zaa l i).kind = 2 then .ok (.mk 1 (zaa l i).n [] []) (i + 1)
  else if isS l i ([40] /- ( -/) = true then (zad l E i opened ([40] /- ( -/) ([41] /- ) -/) 1).andThen fun xs j => match xs with
    | x :: _ => .ok x j
    | [] => .err j 0
  else if (zaa l i).kind ≠ 1 then .err i 120
  else if 0 < zap (zaa l i).text then (zad l E (i + 1) opened ([91] /- [ -/) ([93] /- ] -/) 1).map (.mk 3 (zap (zaa l i).text) [])
  else if 0 < zai (zaa l i).text callWords 0 then (zad l E (i + 1) opened ([40] /- ( -/) ([41] /- ) -/) (if zai (zaa l i).text callWords 0 <= 2 then 1 else 2)).map (.mk (callOps.getD (zai (zaa l i).text callWords 0) 0) 0 [])
  else if (zaa l i).text = [116, 105, 99, 107] /- tick -/ then .ok (.mk 4 0 [] []) (i + 1)
  else if (zaa l i).text = [115, 101, 108, 102] /- self -/ then .ok (.mk 5 0 [] []) (i + 1)
  else if zaP (zaa l i).text = false then .err i 120
  else .ok (.mk 2 0 (zaa l i).text []) (i + 1)
def zas (l : List Tok) (E : Nat -> Nat -> Nat -> PR Ex) : Nat -> Nat -> Nat -> PR Ex
  | 0, i, _ => .err i 0
  | f + 1, i, opened =>
    if isS l i ([45] /- - -/) = false /\ isS l i ([33] /- ! -/) = false then zah l E i opened
    else if 200 <= opened then .err i 121
    else (zas l E f (i + 1) (opened + 1)).map fun x => .mk (if isS l i ([33] /- ! -/) = true then 8 else 7) 0 [] [x]
def zaw (l : List Tok) : Nat -> Nat -> Nat -> Nat -> PR Ex
  | 0, i, _, _ => .err i 0
  | f + 1, i, opened, least => (zas l (zaw l f) (l.length + 1 - i) i opened).andThen fun x j => zaD l (zaw l f) (l.length + 1 - j) x j opened least
def zaA (l : List Tok) (i opened least : Nat) : PR Ex := zaw l (l.length + 1 - i) i opened least
def zaz (l : List Tok) (i opened : Nat) : PR Ex :=
  if isS l i ([61] /- = -/) = false then .err i 120
  else (zaA l (i + 1) opened 1).andThen fun x j => if isS l j ([59] /- ; -/) = false then .err j 120 else .ok x (j + 1)
def zaX (l : List Tok) (S : Nat -> Nat -> PR St) (opened : Nat) : Nat -> List St -> Nat -> PR (List St)
  | 0, _, i => .err i 0
  | f + 1, xs, i => if isS l i ([125] /- } -/) = true then .ok xs (i + 1) else (S i (opened + 1)).andThen fun x j => zaX l S opened f (xs ++ [x]) j
def zaB (l : List Tok) (S : Nat -> Nat -> PR St) (i opened : Nat) : PR (List St) :=
  (zay l i ([123] /- { -/) opened).andThen fun _ j => zaX l S opened (l.length + 1 - j) [] j
def zau (l : List Tok) (S : Nat -> Nat -> PR St) : Nat -> Nat -> Nat -> PR St
  | 0, i, _ => .err i 0
  | f + 1, i, opened =>
    (zad l (zaA l) (i + 1) opened ([40] /- ( -/) ([41] /- ) -/) 1).andThen fun x j =>
    (zaB l S j opened).andThen fun body k =>
    if isS l i ([119, 104, 105, 108, 101] /- while -/) = true then .ok (.mk 5 0 [] x body []) k
    else if isS l k ([101, 108, 115, 101] /- else -/) = false then .ok (.mk 4 0 [] x body []) k
    else if 200 <= opened then .err k 121
    else if isS l (k + 1) ([105, 102] /- if -/) = true then (zau l S f (k + 1) (opened + 1)).map fun y => .mk 4 0 [] x body [y]
    else (zaB l S (k + 1) (opened + 1)).map fun other => .mk 4 0 [] x body other
def zan (l : List Tok) : Nat -> Nat -> Nat -> PR St
  | 0, i, _ => .err i 0
  | f + 1, i, opened =>
    if (zaa l i).kind ≠ 1 then .err i 120
    else if 0 < zap (zaa l i).text then
      (zad l (zaA l) (i + 1) opened ([91] /- [ -/) ([93] /- ] -/) 1).andThen fun xs j => (zaz l j opened).map fun y => .mk 3 (zap (zaa l i).text) [] (xs ++ [y]) [] []
    else if (zaa l i).text = [115, 116, 111, 112] /- stop -/ ∨ (zaa l i).text = [102, 97, 105, 108] /- fail -/ then
      if isS l (i + 1) ([59] /- ; -/) = false then .err (i + 1) 120
      else .ok (.mk (if (zaa l i).text = [115, 116, 111, 112] /- stop -/ then 6 else 7) 0 [] [] [] []) (i + 2)
    else if (zaa l i).text = [105, 102] /- if -/ ∨ (zaa l i).text = [119, 104, 105, 108, 101] /- while -/ then zau l (zan l f) (l.length + 1 - i) i opened
    else if (zaa l i).text = [108, 101, 116] /- let -/ then
      if (zaa l (i + 1)).kind ≠ 1 ∨ zaP (zaa l (i + 1)).text = false then .err (i + 1) 120
      else (zaz l (i + 2) opened).map fun x => .mk 1 0 (zaa l (i + 1)).text [x] [] []
    else if zaP (zaa l i).text = false then .err i 120
    else (zaz l (i + 1) opened).map fun x => .mk 2 0 (zaa l i).text [x] [] []
def zcJ (l : List Tok) (i opened : Nat) : PR St := zan l (l.length + 1 - i) i opened
def allS (l : List Tok) : Nat -> List St -> Nat -> PR (List St)
  | 0, _, i => .err i 0
  | f + 1, xs, i => if (zaa l i).kind = 4 then .ok xs i else (zcJ l i 0).andThen fun x j => allS l f (xs ++ [x]) j
inductive ParR where
  | ok (l : List St)
  | err (line col code : Int)
def zbg (src : List UInt8) : ParR :=
  match lexS src with
  | .err a b c => .err a b c
  | .ok l => match allS l (l.length + 1) [] 0 with
    | .ok xs _ => .ok xs
    | .err i c => .err (zaa l i).line (zaa l i).col c
inductive ExsC (w : World) (P : Nat -> Prop) : List Ex -> List Value -> Prop
  | nil : ExsC w P [] []
  | cons {op n : Int} {name : List UInt8} {args xs : List Ex} {v : Value} {cs ds : List Value} (h1 : Sl w 4 args.length cs v) (h2 : args.length = 0 ∨ ∀ g, v.ownBlock = some g -> P g) (h3 : ExsC w P args cs) (h4 : ExsC w P xs ds) :
      ExsC w P (.mk op n name args :: xs) (.int .u8 op :: .int .i64 n :: .string (bstr name) :: v :: ds)
theorem Sl.grownP{w w':World}{sz n:Nat}{cs:List Value}{v:Value}{P:Nat->Prop}{row:Option Nat}(h:Sl w sz n cs v)(i:w.grownBy w' row)(m:∀g,row=some g->¬P g)(f:n=0∨∀g,v.ownBlock=some g->P g):Sl w' sz n cs v:=by
 refine h.grown i ?_;rcases f with d|f
 ·exact .inl d
 ·rcases Nat.eq_zero_or_pos n with d|d
  ·exact .inl d
  ·obtain⟨a,cap,rfl,_,_,_,l⟩:=h;obtain⟨b,j,rfl,_⟩:=l d;exact .inr (fun e=>m b e.symm (f b rfl))
theorem zgw{w:World}{sz n:Nat}{cs:List Value}{v:Value}{P Q:Nat->Prop}(j:0<sz)(h:Sl w sz n cs v)(i:∀g,g<w.heap.size->P g->Q g)(d:n=0∨∀g,v.ownBlock=some g->P g):n=0∨∀g,v.ownBlock=some g->Q g:=by
 rcases Nat.eq_zero_or_pos n with f|f
 ·exact .inl f
 ·rcases d with d|d
  ·exact .inl d
  ·exact .inr (fun g hg=>i g (h.ownLt j f hg) (d g hg))
theorem ExsC.under{w w':World}{P:Nat->Prop}{xs:List Ex}{cs:List Value}(h:ExsC w P xs cs){B:Nat}(d:Below B w w')(f:w.heap.size<=B):ExsC w' P xs cs:=by
 induction h with
 | nil=>exact .nil
 | cons h1 h2 _ _ ih1 ih2=>exact .cons (h1.below (by omega) d f) h2 ih1 ih2
theorem ExsC.grown{w w':World}{P:Nat->Prop}{xs:List Ex}{cs:List Value}(h:ExsC w P xs cs){row:Option Nat}(d:w.grownBy w' row)(f:∀g,row=some g->¬P g):ExsC w' P xs cs:=by
 induction h with
 | nil=>exact .nil
 | cons h1 h2 _ _ ih1 ih2=>exact .cons (h1.grownP d f h2) h2 ih1 ih2
theorem ExsC.weak{w:World}{P Q:Nat->Prop}{xs:List Ex}{cs:List Value}(h:ExsC w P xs cs)(d:∀g,g<w.heap.size->P g->Q g):ExsC w Q xs cs:=by
 induction h with
 | nil=>exact .nil
 | cons h1 h2 _ _ ih1 ih2=>exact .cons h1 (zgw (by omega) h1 d h2) ih1 ih2
theorem ExsC.append{w:World}{P:Nat->Prop}{xs ys:List Ex}{cs d:List Value}(h:ExsC w P xs cs)(f:ExsC w P ys d):ExsC w P (xs++ys) (cs++d):=by
 induction h with
 | nil=>exact f
 | cons h1 h2 h3 _ _ ih2=>exact .cons h1 h2 h3 ih2
theorem ExsC.len{w:World}{P:Nat->Prop}{xs:List Ex}{cs:List Value}(h:ExsC w P xs cs):cs.length=xs.length*4:=by
 induction h with
 | nil=>rfl
 | cons _ _ _ _ _ ih=>simp only[yB,ih];omega
def ExV (w : World) (P : Nat -> Prop) (x : Ex) (v : Value) : Prop := ∃ cs : List Value, v = .agg cs.toArray /\ ExsC w P [x] cs
theorem ExV.under{w w':World}{P:Nat->Prop}{x:Ex}{v:Value}(h:ExV w P x v){B:Nat}(d:Below B w w')(f:w.heap.size<=B):ExV w' P x v:=by
 obtain⟨cs,e,h⟩:=h;exact⟨cs,e,h.under d f⟩
inductive StsC (w : World) (P : Nat -> Prop) : List St -> List Value -> Prop
  | nil : StsC w P [] []
  | cons {op n : Int} {name : List UInt8} {es : List Ex} {body els xs : List St} {ve vb vl : Value} {ce cb cl ds : List Value}
      (h1 : Sl w 4 es.length ce ve) (h2 : es.length = 0 ∨ ∀ g, ve.ownBlock = some g -> P g) (h3 : ExsC w P es ce)
      (b1 : Sl w 6 body.length cb vb) (b2 : body.length = 0 ∨ ∀ g, vb.ownBlock = some g -> P g) (b3 : StsC w P body cb)
      (l1 : Sl w 6 els.length cl vl) (l2 : els.length = 0 ∨ ∀ g, vl.ownBlock = some g -> P g) (l3 : StsC w P els cl) (h4 : StsC w P xs ds) :
      StsC w P (.mk op n name es body els :: xs) (.int .u8 op :: .int .i64 n :: .string (bstr name) :: ve :: vb :: vl :: ds)
theorem StsC.under{w w':World}{P:Nat->Prop}{xs:List St}{cs:List Value}(h:StsC w P xs cs){B:Nat}(d:Below B w w')(f:w.heap.size<=B):StsC w' P xs cs:=by
 induction h with
 | nil=>exact .nil
 | cons h1 h2 h3 b1 b2 _ l1 l2 _ _ ih1 ih2 ih3=>exact .cons (h1.below (by omega) d f) h2 (h3.under d f) (b1.below (by omega) d f) b2 ih1 (l1.below (by omega) d f) l2 ih2 ih3
theorem StsC.grown{w w':World}{P:Nat->Prop}{xs:List St}{cs:List Value}(h:StsC w P xs cs){row:Option Nat}(d:w.grownBy w' row)(f:∀g,row=some g->¬P g):StsC w' P xs cs:=by
 induction h with
 | nil=>exact .nil
 | cons h1 h2 h3 b1 b2 _ l1 l2 _ _ ih1 ih2 ih3=>exact .cons (h1.grownP d f h2) h2 (h3.grown d f) (b1.grownP d f b2) b2 ih1 (l1.grownP d f l2) l2 ih2 ih3
theorem StsC.weak{w:World}{P Q:Nat->Prop}{xs:List St}{cs:List Value}(h:StsC w P xs cs)(d:∀g,g<w.heap.size->P g->Q g):StsC w Q xs cs:=by
 induction h with
 | nil=>exact .nil
 | cons h1 h2 h3 b1 b2 _ l1 l2 _ _ ih1 ih2 ih3=>exact .cons h1 (zgw (by omega) h1 d h2) (h3.weak d) b1 (zgw (by omega) b1 d b2) ih1 l1 (zgw (by omega) l1 d l2) ih2 ih3
theorem StsC.append{w:World}{P:Nat->Prop}{xs ys:List St}{cs d:List Value}(h:StsC w P xs cs)(f:StsC w P ys d):StsC w P (xs++ys) (cs++d):=by
 induction h with
 | nil=>exact f
 | cons h1 h2 h3 b1 b2 b3 l1 l2 l3 _ _ _ ih=>exact .cons h1 h2 h3 b1 b2 b3 l1 l2 l3 ih
def StV (w : World) (P : Nat -> Prop) (x : St) (v : Value) : Prop := ∃ cs : List Value, v = .agg cs.toArray /\ StsC w P [x] cs
/-! sizes, as the statements count them -/
mutual
def szE : Ex -> Nat
  | .mk _ _ name args => 1 + name.length / 30 + szEs args
def szEs : List Ex -> Nat
  | [] => 0
  | x :: r => szE x + szEs r
end
mutual
def szS : St -> Nat
  | .mk _ _ name es body els => 1 + name.length / 30 + szEs es + szSs body + szSs els
def szSs : List St -> Nat
  | [] => 0
  | x :: r => szS x + szSs r
end
/-! what every tree that can be read is like -/
def okI (n : Int) : Prop := -9223372036854775808 <= n /\ n <= 9223372036854775807
mutual
def okE : Ex -> Prop
  | .mk op n name args => (0 <= op /\ op <= 255) /\ okI n /\ name.length <= 9223372036854775807 /\ okEs args
def okEs : List Ex -> Prop
  | [] => True
  | x :: r => okE x /\ okEs r
end
mutual
def okS : St -> Prop
  | .mk op n name es body els => (0 <= op /\ op <= 255) /\ okI n /\ name.length <= 9223372036854775807 /\ okEs es /\ okSs body /\ okSs els
def okSs : List St -> Prop
  | [] => True
  | x :: r => okS x /\ okSs r
end
theorem zgR{xs:List Ex}(h:okEs xs):∀{k:Nat} {x:Ex},xs[k]? = some x->okE x:=by
 induction xs with
 | nil=>intro k x d;simp at d
 | cons y r ih =>
  intro k x d
  cases k with
  | zero=>simp at d;rw[<-d];exact h.1
  | succ k=>exact ih h.2 (by simpa using d)
theorem znr{xs:List St}(h:okSs xs):∀{k:Nat} {x:St},xs[k]? = some x->okS x:=by
 induction xs with
 | nil=>intro k x d;simp at d
 | cons y r ih =>
  intro k x d
  cases k with
  | zero=>simp at d;rw[<-d];exact h.1
  | succ k=>exact ih h.2 (by simpa using d)
theorem ziA(xs ys:List Ex):szEs (xs++ys)=szEs xs+szEs ys:=by
 induction xs with
 | nil=>simp[szEs]
 | cons x r ih=>simp only[List.cons_append,szEs,ih];omega
theorem ziC(xs ys:List St):szSs (xs++ys)=szSs xs+szSs ys:=by
 induction xs with
 | nil=>simp[szSs]
 | cons x r ih=>simp only[List.cons_append,szSs,ih];omega
theorem zhi{xs:List Ex}{k:Nat}{x:Ex}(h:xs[k]? = some x):szEs (xs.take (k+1))=szEs (xs.take k)+szE x:=by
 obtain⟨d,rfl⟩:=List.getElem?_eq_some_iff.1 h;rw[List.take_succ_eq_append_getElem d,ziA];rfl
theorem zlM{xs:List St}{k:Nat}{x:St}(h:xs[k]? = some x):szSs (xs.take (k+1))=szSs (xs.take k)+szS x:=by
 obtain⟨d,rfl⟩:=List.getElem?_eq_some_iff.1 h;rw[List.take_succ_eq_append_getElem d,ziC];rfl
theorem zns{xs:List Ex}{k:Nat}{x:Ex}(h:xs[k]? = some x):szE x<=szEs xs:=by
 have:=ziA (xs.take (k+1)) (xs.drop (k+1));rw[List.take_append_drop,zhi h] at this;omega
theorem znt{xs:List St}{k:Nat}{x:St}(h:xs[k]? = some x):szS x<=szSs xs:=by
 have:=ziC (xs.take (k+1)) (xs.drop (k+1));rw[List.take_append_drop,zlM h] at this;omega
theorem ztI(x:Ex):1<=szE x:=by cases x;simp only[szE];omega
theorem zrp(x:St):1<=szS x:=by cases x;simp only[szS];omega
theorem zoh(xs:List Ex):xs.length<=szEs xs:=by
 induction xs with
 | nil=>simp[szEs]
 | cons x r ih=>have:=ztI x;simp only[yB,szEs];omega
theorem zs7(xs:List St):xs.length<=szSs xs:=by
 induction xs with
 | nil=>simp[szSs]
 | cons x r ih=>have:=zrp x;simp only[yB,szSs];omega

/-! below a block -/
theorem Sl.low{w w':World}{sz n:Nat}{cs:List Value}{v:Value}{B:Nat}(h:Sl w sz n cs v)(f:n=0∨∀g,v.ownBlock=some g->g<B)(y:Below B w w'):Sl w' sz n cs v:=by
 obtain⟨a,cap,rfl,l,m,u,z⟩:=h;refine⟨a,cap,rfl,l,m,u,fun hn=>?_⟩;obtain⟨b,d,rfl,q⟩:=z hn;refine⟨b,d,rfl,fun j hj=>?_⟩
 have i:b<B:=by
  rcases f with rfl|f
  ·omega
  ·exact f b rfl
 rw[y.cell (p:=⟨b,d+j,none⟩) i];exact q j hj
theorem ExsC.low{w w':World}{B:Nat}{xs:List Ex}{cs:List Value}(h:ExsC w (fun g=>g<B) xs cs)(d:Below B w w'):ExsC w' (fun g=>g<B) xs cs:=by
 induction h with
 | nil=>exact .nil
 | cons h1 h2 _ _ ih1 ih2=>exact .cons (h1.low h2 d) h2 ih1 ih2
theorem StsC.low{w w':World}{B:Nat}{xs:List St}{cs:List Value}(h:StsC w (fun g=>g<B) xs cs)(d:Below B w w'):StsC w' (fun g=>g<B) xs cs:=by
 induction h with
 | nil=>exact .nil
 | cons h1 h2 h3 b1 b2 _ l1 l2 _ _ ih1 ih2 ih3=>exact .cons (h1.low h2 d) h2 (h3.low d) (b1.low b2 d) b2 ih1 (l1.low l2 d) l2 ih2 ih3
def EsL (w : World) (B : Nat) (xs : List Ex) (v : Value) : Prop := ∃ cs, Sl w 4 xs.length cs v /\ (xs.length = 0 ∨ ∀ g, v.ownBlock = some g -> g < B) /\ ExsC w (fun g => g < B) xs cs
def SsL (w : World) (B : Nat) (xs : List St) (v : Value) : Prop := ∃ cs, Sl w 6 xs.length cs v /\ (xs.length = 0 ∨ ∀ g, v.ownBlock = some g -> g < B) /\ StsC w (fun g => g < B) xs cs
theorem EsL.low{w w':World}{B:Nat}{xs:List Ex}{v:Value}(h:EsL w B xs v)(d:Below B w w'):EsL w' B xs v:=by
 obtain⟨cs,g,f,i⟩:=h;exact⟨cs,g.low f d,f,i.low d⟩
theorem SsL.low{w w':World}{B:Nat}{xs:List St}{v:Value}(h:SsL w B xs v)(d:Below B w w'):SsL w' B xs v:=by
 obtain⟨cs,g,f,i⟩:=h;exact⟨cs,g.low f d,f,i.low d⟩
theorem EsL.nil(w:World)(B:Nat):EsL w B [] (.slice none 0 0):=⟨[],Sl.nil w 4,.inl rfl,.nil⟩
theorem SsL.nil(w:World)(B:Nat):SsL w B [] (.slice none 0 0):=⟨[],Sl.nil w 6,.inl rfl,.nil⟩
theorem EsL.form{w:World}{B:Nat}{xs:List Ex}{v:Value}(h:EsL w B xs v):∃a cap,v=.slice a xs.length cap/\xs.length<=cap/\cap<=9223372036854775807:=by
 obtain⟨cs,d,-⟩:=h;exact Sl.form d
theorem SsL.form{w:World}{B:Nat}{xs:List St}{v:Value}(h:SsL w B xs v):∃a cap,v=.slice a xs.length cap/\xs.length<=cap/\cap<=9223372036854775807:=by
 obtain⟨cs,d,-⟩:=h;exact Sl.form d
theorem ExsC.at{w:World}{P:Nat->Prop}{xs:List Ex}{cs:List Value}(h:ExsC w P xs cs):∀{k:Nat} {x:Ex},xs[k]? = some x ->
  ∃op n name args f d,x=.mk op n name args/\cs[k*4]? = some (.int .u8 op)/\cs[k*4+1]? = some (.int .i64 n)/\cs[k*4+2]? = some (.string (bstr name))/\cs[k*4+3]? = some (.slice f args.length d) /\
   ∃ds,Sl w 4 args.length ds (.slice f args.length d)/\(args.length=0∨∀g,(Value.slice f args.length d).ownBlock=some g->P g)/\ExsC w P args ds:=by
 induction h with
 | nil=>intro k x i;simp at i
 | cons h1 h2 h3 h4 _ ih2 =>
  intro k x i
  cases k with
  | zero =>
   simp at i;obtain⟨f,d,rfl,-,-⟩:=Sl.form h1
   exact⟨_,_,_,_,f,d,i.symm,rfl,rfl,rfl,rfl,_,h1,h2,h3⟩
  | succ k =>
   have:=ih2 (k:=k) (by simpa using i);obtain⟨op,n,name,args,f,d,q,l,m,u,j,r⟩:=this;have e:(k+1)*4=k*4+4:=by omega
   exact⟨op,n,name,args,f,d,q,by rw[e];exact l,by rw[e];exact m,by rw[e];exact u,by rw[e];exact j,r⟩
theorem StsC.at{w:World}{P:Nat->Prop}{xs:List St}{cs:List Value}(h:StsC w P xs cs):∀{k:Nat} {x:St},xs[k]? = some x ->
  ∃op n name es body els f d l j al i,x=.mk op n name es body els/\cs[k*6]? = some (.int .u8 op)/\cs[k*6+1]? = some (.int .i64 n)/\cs[k*6+2]? = some (.string (bstr name))/\cs[k*6+3]? = some (.slice f es.length d)/\cs[k*6+4]? = some (.slice l body.length j)/\cs[k*6+5]? = some (.slice al els.length i) /\
   (∃ds,Sl w 4 es.length ds (.slice f es.length d)/\(es.length=0∨∀g,(Value.slice f es.length d).ownBlock=some g->P g)/\ExsC w P es ds) /\
   (∃ds,Sl w 6 body.length ds (.slice l body.length j)/\(body.length=0∨∀g,(Value.slice l body.length j).ownBlock=some g->P g)/\StsC w P body ds) /\
   (∃ds,Sl w 6 els.length ds (.slice al els.length i)/\(els.length=0∨∀g,(Value.slice al els.length i).ownBlock=some g->P g)/\StsC w P els ds):=by
 induction h with
 | nil=>intro k x m;simp at m
 | cons h1 h2 h3 b1 b2 b3 l1 l2 l3 h4 _ _ ih =>
  intro k x m
  cases k with
  | zero =>
   simp at m;obtain⟨f,d,rfl,-,-⟩:=Sl.form h1;obtain⟨l,j,rfl,-,-⟩:=Sl.form b1;obtain⟨al,i,rfl,-,-⟩:=Sl.form l1
   exact⟨_,_,_,_,_,_,f,d,l,j,al,i,m.symm,rfl,rfl,rfl,rfl,rfl,rfl,⟨_,h1,h2,h3⟩,⟨_,b1,b2,b3⟩,⟨_,l1,l2,l3⟩⟩
  | succ k =>
   have:=ih (k:=k) (by simpa using m);obtain⟨op,n,name,es,body,els,f,d,l,j,al,i,A,y,z,B,u,q,v,r⟩:=this;have e:(k+1)*6=k*6+6:=by omega
   exact⟨op,n,name,es,body,els,f,d,l,j,al,i,A,by rw[e];exact y,by rw[e];exact z,by rw[e];exact B,by rw[e];exact u,by rw[e];exact q,by rw[e];exact v,r⟩
theorem EsL.at{w:World}{B:Nat}{xs:List Ex}{a:Option Addr}{m cap:Nat}(h:EsL w B xs (.slice a m cap)){k:Nat}(q:k<xs.length) :
  ∃b d op n name args i g,a=some ⟨b,d,none⟩/\b<B/\b<w.heap.size/\xs[k]? = some (.mk op n name args)/\w.cell? ⟨b,d+k*4,none⟩=some (.int .u8 op)/\w.cell? ⟨b,d+k*4+1,none⟩=some (.int .i64 n)/\w.cell? ⟨b,d+k*4+2,none⟩=some (.string (bstr name))/\w.cell? ⟨b,d+k*4+3,none⟩=some (.slice i args.length g)/\EsL w B args (.slice i args.length g):=by
 obtain⟨cs,v,f,y⟩:=h;obtain⟨b,d,rfl,l,j⟩:=v.at (by omega) (by omega)
 have E:b<B:=by
  rcases f with f|f
  ·omega
  ·exact f b rfl
 obtain⟨op,n,name,args,i,g,D,z,A,C,u,r⟩:=y.at (k:=k) (yD q);refine⟨b,d,op,n,name,args,i,g,rfl,E,l,by rw[yD q,D],?_,?_,?_,?_,r⟩
 ·rw[j _ (by omega)];exact z
 ·rw[Nat.add_assoc,j _ (by omega)];exact A
 ·rw[Nat.add_assoc,j _ (by omega)];exact C
 ·rw[Nat.add_assoc,j _ (by omega)];exact u
theorem SsL.at{w:World}{B:Nat}{xs:List St}{a:Option Addr}{m cap:Nat}(h:SsL w B xs (.slice a m cap)){k:Nat}(y:k<xs.length) :
  ∃b d op n name es body els u q l j al i,a=some ⟨b,d,none⟩/\b<B/\b<w.heap.size/\xs[k]? = some (.mk op n name es body els)/\w.cell? ⟨b,d+k*6,none⟩=some (.int .u8 op)/\w.cell? ⟨b,d+k*6+1,none⟩=some (.int .i64 n)/\w.cell? ⟨b,d+k*6+2,none⟩=some (.string (bstr name))/\w.cell? ⟨b,d+k*6+3,none⟩=some (.slice u es.length q)/\w.cell? ⟨b,d+k*6+4,none⟩=some (.slice l body.length j)/\w.cell? ⟨b,d+k*6+5,none⟩=some (.slice al els.length i) /\
   EsL w B es (.slice u es.length q)/\SsL w B body (.slice l body.length j)/\SsL w B els (.slice al els.length i):=by
 obtain⟨cs,H,g,I⟩:=h;obtain⟨b,d,rfl,v,f⟩:=H.at (by omega) (by omega)
 have G:b<B:=by
  rcases g with g|g
  ·omega
  ·exact g b rfl
 obtain⟨op,n,name,es,body,els,u,q,l,j,al,i,C,F,J,A,D,z,E,r⟩:=I.at (k:=k) (yD y);refine⟨b,d,op,n,name,es,body,els,u,q,l,j,al,i,rfl,G,v,by rw[yD y,C],?_,?_,?_,?_,?_,?_,r⟩
 ·rw[f _ (by omega)];exact F
 ·rw[Nat.add_assoc,f _ (by omega)];exact J
 ·rw[Nat.add_assoc,f _ (by omega)];exact A
 ·rw[Nat.add_assoc,f _ (by omega)];exact D
 ·rw[Nat.add_assoc,f _ (by omega)];exact z
 ·rw[Nat.add_assoc,f _ (by omega)];exact E
theorem zlL{xs:List Ex}{k:Nat}{op n:Int}{name:List UInt8}{args:List Ex}(h:xs[k]? = some (.mk op n name args)):szEs args<szEs xs:=by
 have:=zns h;simp only[szE] at this;omega
theorem szS_mk{xs:List St}{k:Nat}{op n:Int}{name:List UInt8}{es:List Ex}{body els:List St}(h:xs[k]? = some (.mk op n name es body els)):szEs es<szSs xs/\szSs body<szSs xs/\szSs els<szSs xs:=by
 have:=znt h;simp only[szS] at this;omega
end Go.Proofs.YtoaojdobjinhfaaGreatDoor
