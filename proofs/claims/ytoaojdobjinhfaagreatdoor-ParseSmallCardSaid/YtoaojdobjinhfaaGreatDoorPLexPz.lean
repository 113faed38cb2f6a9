/- The program's lexer: Lex, walked: it answers what the reference's lexer answers. No condition but what the library's variables hold. -/
import Derived.Test.YtoaojdobjinhfaaGreatDoorPNextAPz
set_option linter.unusedSimpArgs false
set_option linter.unusedVariables false
set_option maxRecDepth 100000
set_option maxHeartbeats 2000000
namespace Go.Proofs.YtoaojdobjinhfaaGreatDoor
open Go.RowKit

theorem zmm(b:Nat)(src:ByteArray)(at':Nat)(line col:Int)(w:World)(hS:Scan w b line col src at')(m:at'<=src.size)(g:src.size<=16384)(z:0<=line/\line<=at'+1)(v:0<=col/\col<=at'+1)(B:Glob w)(i:glB<=b) :
  ∃j L C,zam (src.data.toList.drop at') false line col=(src.data.toList.drop j,L,C)/\at'<=j/\j<=src.size/\(0<=L/\L<=j+1)/\(0<=C/\C<=j+1) /\
   Calls Tryz.prog 67 #[.pointer (some ⟨b,0,none⟩)] w fun e w'=>zev b src j L C w e w' (zcG (src.data.toList.drop j)):=by
 obtain⟨n,l,f,A⟩:=zle (src.data.toList.drop at') false line col;rw[List.length_drop,zaq] at l;rw[List.drop_drop] at f;have y:=zdy (src:=src) (at':=at') (n:=n) (by omega) z v;obtain⟨L,C,u⟩:∃L C,posS ((src.data.toList.drop at').take n) line col=(L,C):=⟨_,_,rfl⟩;rw[u] at A y
 have d:zam (src.data.toList.drop at') false line col=(src.data.toList.drop (at'+n),L,C):=by
  rw[<-f,<-A]
 refine⟨at'+n,L,C,d,by omega,by omega,y.1,y.2,?_⟩;by_cases q:∃h:at'+n<src.size,zaH src[at'+n]=false/\zaG src[at'+n]=false
 ·obtain⟨D,l,f⟩:=q;exact zlm b src at' (at'+n) line col L C w hS m g z v D B i l f d
 ·refine next_part b src at' (at'+n) line col L C w hS m g z v (by omega) B i (fun h=>?_) d;cases l:zaH src[at'+n]
  ·cases f:zaG src[at'+n]
   ·exact absurd ⟨h,l,f⟩ q
   ·exact .inr rfl
  ·exact .inl rfl
theorem zmn{d:List UInt8}{code:Int}(h:zcG d=.err code):code=110∨code=111∨code=112:=by
 cases d with
 | nil=>cases h
 | cons b r =>
  rw[zcG] at h;split at h
  ·split at h <;> cases h
   simp
  ·split at h
   ·split at h <;> cases h
    simp
   ·split at h <;> cases h
    simp
theorem zmo{d:List UInt8}{k n:Int}{t:List UInt8}(h:zcG d=.tok k t n):(k=1∨k=2∨k=3)/\1<=t.length/\t.length<=d.length:=by
 cases d with
 | nil=>cases h
 | cons b r =>
  have f:((b::r).takeWhile zaf).length<=(b::r).length:=(List.takeWhile_prefix _).length_le;rw[zcG] at h;split at h
  ·rename_i hl
   split at h <;> cases h
   exact⟨.inl rfl,zfh (zcC hl),f⟩
  ·split at h
   ·rename_i hd
    split at h <;> cases h
    exact⟨.inr (.inl rfl),zfh (zcZ hd),f⟩
   ·split at h <;> cases h
    have:=zgI (b::r);refine⟨.inr (.inr rfl),?_,?_⟩
    ·rw[List.length_take];omega
    ·rw[List.length_take];omega
theorem zg3:(Tryz.prog.info? 51).map (fun i=>(i.zero,i.size,i.bytes))=some (some (.agg #[.int .u8 0,.string ByteArray.empty,.int .i64 0,.int .i64 0,.int .i64 0]),5,48):=by kernel_rfl
theorem zfK{w:World}{base:Nat}{e:TypeId}{sz:Nat}{v:Value}{n:Nat}{xs:List Value}(h:w.ownsRow base e sz v n xs){g:Nat}(d:v.ownBlock=some g):base<=g:=by
 obtain⟨_,h|⟨j,cap,i,rfl,f,_⟩⟩:=h
 ·rw[h.1] at d;cases d
 ·cases d;exact f
theorem zgf{w:World}{base:Nat}{e:TypeId}{sz:Nat}{v:Value}{n:Nat}{xs:List Value}(h:w.ownsRow base e sz v n xs){g:Nat}(d:v.ownBlock=some g):g<w.heap.size:=by
 obtain⟨_,h|⟨l,cap,i,rfl,j,f,_⟩⟩:=h
 ·rw[h.1] at d;cases d
 ·cases d;exact lt_of_block f
theorem zg4{w:World}{base:Nat}{e:TypeId}{v:Value}{ts:List Tok}{t:Tok}{xs:List Value}(h:w.ownsRow base e 5 v (ts.length+1) (ts.flatMap Tok.cells++xs))(d:xs=t.cells):w.ownsRow base e 5 v (ts++[t]).length ((ts++[t]).flatMap Tok.cells):=by
 subst d;rw[List.flatMap_append,yA];simpa using h
theorem zm6(s:ByteArray)(w:World)(hs:s.size<=9223372036854775807)(hG:Glob w) :
  Calls Tryz.prog 36 #[.string s] w fun e w'=>LexE w' e (lexS s.data.toList)/\Below w.heap.size w w':=by
 by_cases hl:s.size<=16384
 ·have aa:¬(s.size:Int)>16384:=by omega
  have T:Hid (lexS s.data.toList=(lexF (s.data.toList.drop 0) 1 1).pre []):=zh (by rw[LexR.pre_nil,List.drop_zero,zcO,zaq,yN (by omega)]);generalize lexS s.data.toList=y at T ⊢;have HG:=zh hG;have R:glB<=w.heap.size:=hG.size;clear hG;go_enter Tryz.func36,Tryz.ntmps36
  go_wp2_with fail
  go_loopg [2,3,4,5,7,8,9,17,18,19,20,21,22,23,24,25,26,27,28,29,30,31,32,33,34,35,36] (s.size+1) (fun g _ _ _ _ t7 _ _ _ _ _ _ _ _ _ _ _ _ _ _ _ _ _ _ _ _ _ _ wr=>∃(at':Nat) (line col:Int) (ts:List Tok),g=s.size+1-at'/\at'<=s.size/\ts.length<=at'/\(0<=line/\line<=at'+1)/\(0<=col/\col<=at'+1)/\wr.ownsRow (w.heap.size+1) 51 5 t7 ts.length (ts.flatMap Tok.cells)/\Hid (y=(lexF (s.data.toList.drop at') line col).pre ts)/\Hid (Scan wr w.heap.size line col s at')/\Hid (Below w.heap.size w wr))
  case atStart =>
   exact⟨0,1,1,[],by omega,by omega,by simp,by omega,by omega,World.ownsRow_nil _ _ _ _,zh T.out,zh (OwnV.new w 83 [.int .i64 1,.int .i64 1,.string s,.int .i64 (0:Nat)]),zh ((yR _ _).alloc (zr _) _)⟩
  case round =>
   obtain⟨at',line,col,ts,rfl,ac,ak,Y,ae,hown,Hk,HS,U⟩:=hrel;obtain⟨j,L,C,S,ag,ai,hL,hC,hN⟩:=zmm w.heap.size s at' line col wr HS.out ac hl Y ae (HG.out.below U.out R) R;have N:Hid (y=(lexT (s.data.toList.drop j) L C).pre ts):=zh (by rw[Hk.out,zbY,S]);have V:=zh hN;have A:=zh hown;have K:=U.out.size;clear hN S Hk hown;obtain⟨hd,P⟩:∃hd,zcG (s.data.toList.drop j)=hd:=⟨_,rfl⟩;rw[P] at V;have F:=zh P;clear P
   cases hd with
   | eof =>
    go_wp2_with fail
    go_at_call 67;refine V.out.mono ?_;rintro e1 w2⟨rfl,H,m⟩;have q:Hid (Below w.heap.size w w2):=zh (U.out.trans (m.below (fun k hk=>by have:k=w.heap.size:=hk;omega) K));have d:w2.ownsRow (w.heap.size+1) 51 5 u7 ts.length (ts.flatMap Tok.cells):=m.row A.out (fun g hg h=>by have h1:g=w.heap.size:=h;have:=zfK A.out hg;omega);clear H m;have i:=d.alloc (.cells #[.int .u8 4,.string { data:=#[] },.int .i64 0,.int .i64 L,.int .i64 C] 51);have D:∀g,u7.ownBlock=some g->g<w2.heap.size:=fun g hg=>zgf d hg
    have J:=zh D;have O:=zh (q.out.alloc q.out.size (.cells #[.int .u8 4,.string { data:=#[] },.int .i64 0,.int .i64 L,.int .i64 C] 51));have l:w.heap.size+1<=(w2.alloc (.cells #[.int .u8 4,.string { data:=#[] },.int .i64 0,.int .i64 L,.int .i64 C] 51)).heap.size:=by have:=q.out.size;simp;omega
    have z:=zh l;clear d D l;unfold Tok.cells;go_wp2_with (at_builtin;refine zbj rfl (.tmp 29) (.tmp 31) 45 rfl i zg3 Tryz.underlying45 rfl (by decide) rfl 1 1 (by show Value.slice (some ⟨w2.heap.size+1,0,none⟩) 1 1=_;simp) rfl rfl (by unfold maxLen;omega) (by omega) z.out ?_;intro X Q f B G E;have k0:Q.cell? ⟨w2.heap.size,0,none⟩=some (.int .u8 4):=OwnV.cell ((OwnV.new w2 51 [.int .u8 4,.string { data:=#[] },.int .i64 0,.int .i64 L,.int .i64 C]).grown B (fun e=>by have:=J.out _ e.symm;omega)) rfl;have u:=zh f;have I:Hid (Below w.heap.size w Q):=zh (O.out.trans (G.mono (by omega)));clear i f B G E)
    go_wp2_with fail
    exact yE (v:=.tuple #[X,.int .i64 0,.int .i64 0,.int .i64 0]) (by simp[results,Tryz.results36,go_sem]) rfl ⟨by rw[N.out,zeS,F.out];exact⟨X,rfl,Sl.of_own (zg4 u.out rfl)⟩,I.out⟩
   | err code =>
    have M:=zmn F.out;have am:(code != 0)=true:=by rcases M with rfl|rfl|rfl <;> rfl
    go_wp2_with fail
    go_at_call 67;refine V.out.mono ?_;rintro e1 w2⟨⟨u1,u2,u3,rfl⟩,m⟩;have q:Hid (Below w.heap.size w w2):=zh (U.out.trans (m.below (fun k hk=>by have:k=w.heap.size:=hk;omega) K));clear m;go_wp2_with fail
    refine zac (DrewOf _) (by kernel_rfl) (by kernel_rfl) (DrewOf.start _) ?_
    repeat
     try simp only[Act.put,zs1,zs3,zs2]
     apply stepsSeq.cons
     ·rintro w'⟨W,rfl⟩;simp only[Act.put,zs1,zs3,zs2];go_wp2_with (fail)
      first|exact⟨rfl,W,rfl⟩|exact⟨rfl,W,(World.drewN_drewN _ _ _).symm⟩|exact⟨rfl,W,by simp⟩
    try simp only[Act.put,zs1,zs3,zs2]
    refine stepsSeq.nil ?_;rintro w'⟨W,rfl⟩;go_wp2_with fail
    exact yE (v:=.tuple #[.slice none 0 0,.int .i64 L,.int .i64 C,.int .i64 code]) (by simp[results,Tryz.results36,go_sem]) rfl ⟨by rw[N.out,zeS,F.out];rfl,(q.out.alloc q.out.size _).trans ⟨rfl,rfl,rfl,zr _,fun _ _=>rfl⟩⟩
   | tok k t n =>
    obtain⟨hk,ah,af⟩:=zmo F.out;rw[List.length_drop,zaq] at af;have aj:(k==4)=false:=by rcases hk with rfl|rfl|rfl <;> rfl
    go_wp2_with fail
    go_at_call 67;refine V.out.mono ?_;rintro e1 w2⟨rfl,H,m⟩;have q:Hid (Below w.heap.size w w2):=zh (U.out.trans (m.below (fun k hk=>by have:k=w.heap.size:=hk;omega) K));have d:w2.ownsRow (w.heap.size+1) 51 5 u7 ts.length (ts.flatMap Tok.cells):=m.row A.out (fun g hg h=>by have h1:g=w.heap.size:=h;have:=zfK A.out hg;omega);have ad:=zh H;clear H m hk;have i:=d.alloc (.cells #[.int .u8 k,.string (bstr t),.int .i64 n,.int .i64 L,.int .i64 C] 51);have D:∀g,u7.ownBlock=some g->g<w2.heap.size:=fun g hg=>zgf d hg
    have J:=zh D;have O:=zh (q.out.alloc q.out.size (.cells #[.int .u8 k,.string (bstr t),.int .i64 n,.int .i64 L,.int .i64 C] 51));have l:w.heap.size+1<=(w2.alloc (.cells #[.int .u8 k,.string (bstr t),.int .i64 n,.int .i64 L,.int .i64 C] 51)).heap.size:=by have:=q.out.size;simp;omega
    have z:=zh l;have Z:Hid (∀g,u7.ownBlock=some g->w.heap.size+1<=g):=zh (fun g hg=>zfK d hg);clear d D l;unfold Tok.cells;go_wp2_with (at_builtin;refine zbj rfl (.tmp 29) (.tmp 31) 45 rfl i zg3 Tryz.underlying45 rfl (by decide) rfl 1 1 (by show Value.slice (some ⟨w2.heap.size+1,0,none⟩) 1 1=_;simp) rfl rfl (by unfold maxLen;omega) (by omega) z.out ?_;intro X Q f B G E;have k0:Q.cell? ⟨w2.heap.size,0,none⟩=some (.int .u8 k):=OwnV.cell ((OwnV.new w2 51 [.int .u8 k,.string (bstr t),.int .i64 n,.int .i64 L,.int .i64 C]).grown B (fun e=>by have:=J.out _ e.symm;omega)) rfl;have u:=zh f;have I:Hid (Below w.heap.size w Q):=zh (O.out.trans (G.mono (by omega)));have ab:Hid (Scan Q w.heap.size L (C+t.length) s (j+t.length)):=zh (OwnV.grown (ad.out.alloc _) B (fun e=>by have h2:=Z.out _ e.symm;omega));clear i f B G E)
    go_wp2_with fail
    go_roundg (s.size+1-(j+t.length))
    case measure=>omega
    case rel =>
     exact⟨j+t.length,L,C+t.length,ts++[⟨k,t,n,L,C⟩],rfl,by omega,by simp;omega,by omega,by omega,zg4 u.out rfl,zh (by rw[N.out,zeS,F.out];simp only[];rw[LexR.pre_cons,List.drop_drop]),zh ab.out,zh I.out⟩
 ·have aa:(s.size:Int)>16384:=by omega
  have T:Hid (lexS s.data.toList=.err 0 0 3):=zh (by rw[zcO,zaq,yP (by omega)]);generalize lexS s.data.toList=y at T ⊢;go_enter Tryz.func36,Tryz.ntmps36
  go_wp2_with fail
  exact yE (v:=.tuple #[.slice none 0 0,.int .i64 0,.int .i64 0,.int .i64 3]) (by simp[results,Tryz.results36,go_sem]) rfl ⟨by rw[T.out];rfl,yR _ _⟩
end Go.Proofs.YtoaojdobjinhfaaGreatDoor
