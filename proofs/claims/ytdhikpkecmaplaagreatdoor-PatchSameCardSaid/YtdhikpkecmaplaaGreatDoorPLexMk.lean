/- The program's lexer: Lex, walked: it answers what the reference's lexer answers. No condition but what the library's variables hold. -/
import Derived.Test.YtdhikpkecmaplaaGreatDoorPNextAMk
set_option linter.unusedSimpArgs false
set_option linter.unusedVariables false
set_option maxRecDepth 100000
set_option maxHeartbeats 2000000
namespace Go.Proofs.YtdhikpkecmaplaaGreatDoor
open Go.RowKit

theorem zmm (b:Nat) (src:ByteArray) (at':Nat) (line col:Int) (w:World) (hS:Scan w b line col src at') (hat:at'<=src.size) (hsz:src.size<=16384) (hl:0<=line/\line<=at'+1) (hc:0<=col/\col<=at'+1) (hG:Glob w) (h11:glB<=b) :
  ∃ j L C,zam (src.data.toList.drop at') false line col=(src.data.toList.drop j,L,C)/\at'<=j/\j<=src.size/\(0<=L/\L<=j+1)/\(0<=C/\C<=j+1) /\
   Calls Tryz.prog 127 #[.pointer (some ⟨b,0,none⟩)] w fun e w'=>zev b src j L C w e w' (zcG (src.data.toList.drop j)):=by
 obtain ⟨n,h1,h2,h3⟩:=zle (src.data.toList.drop at') false line col;rw [List.length_drop,zaq] at h1;rw [List.drop_drop] at h2;have hb:=zdy (src:=src) (at':=at') (n:=n) (by omega) hl hc;obtain ⟨L,C,hLC⟩:∃ L C,posS ((src.data.toList.drop at').take n) line col=(L,C):=⟨_,_,rfl⟩;rw [hLC] at h3 hb
 have hsk:zam (src.data.toList.drop at') false line col=(src.data.toList.drop (at'+n),L,C):=by
  rw [<- h2,<- h3]
 refine ⟨at'+n,L,C,hsk,by omega,by omega,hb.1,hb.2,?_⟩;by_cases hcc:∃ h:at'+n < src.size,zaH src[at'+n]=false/\zaG src[at'+n]=false
 ·obtain ⟨hj,h1,h2⟩:=hcc;exact zlm b src at' (at'+n) line col L C w hS hat hsz hl hc hj hG h11 h1 h2 hsk
 ·refine next_part b src at' (at'+n) line col L C w hS hat hsz hl hc (by omega) hG h11 (fun h=>?_) hsk;cases h1:zaH src[at'+n]
  ·cases h2:zaG src[at'+n]
   ·exact absurd ⟨h,h1,h2⟩ hcc
   ·exact .inr rfl
  ·exact .inl rfl
theorem zmn {bs:List UInt8} {code:Int} (h:zcG bs=.err code):code=110∨code=111∨code=112:=by
 cases bs with
 | nil=>cases h
 | cons b r =>
  rw [zcG] at h;split at h
  ·split at h <;> cases h
   simp
  ·split at h
   ·split at h <;> cases h
    simp
   ·split at h <;> cases h
    simp
theorem zmo {bs:List UInt8} {k n:Int} {t:List UInt8} (h:zcG bs=.tok k t n):(k=1∨k=2∨k=3)/\1<=t.length/\t.length<=bs.length:=by
 cases bs with
 | nil=>cases h
 | cons b r =>
  have hw:((b :: r).takeWhile zaf).length<=(b :: r).length:=(List.takeWhile_prefix _).length_le;rw [zcG] at h;split at h
  ·rename_i hl
   split at h <;> cases h
   exact ⟨.inl rfl,zfh (zcC hl),hw⟩
  ·split at h
   ·rename_i hd
    split at h <;> cases h
    exact ⟨.inr (.inl rfl),zfh (zcZ hd),hw⟩
   ·split at h <;> cases h
    have:=zgI (b :: r);refine ⟨.inr (.inr rfl),?_,?_⟩
    ·rw [List.length_take];omega
    ·rw [List.length_take];omega
theorem zg3:(Tryz.prog.info? 180).map (fun i=>(i.zero,i.size,i.bytes))=some (some (.agg #[.int .u8 0,.string ByteArray.empty,.int .i64 0,.int .i64 0,.int .i64 0]),5,48):=by kernel_rfl
theorem zfK {w:World} {base:Nat} {e:TypeId} {sz:Nat} {v:Value} {n:Nat} {xs:List Value} (h:w.ownsRow base e sz v n xs) {g:Nat} (hg:v.ownBlock=some g):base<=g:=by
 obtain ⟨_,h | ⟨g',cap,cur,rfl,hb,_⟩⟩:=h
 ·rw [h.1] at hg;cases hg
 ·cases hg;exact hb
theorem zgf {w:World} {base:Nat} {e:TypeId} {sz:Nat} {v:Value} {n:Nat} {xs:List Value} (h:w.ownsRow base e sz v n xs) {g:Nat} (hg:v.ownBlock=some g):g < w.heap.size:=by
 obtain ⟨_,h | ⟨g',cap,cur,rfl,hb,hh,_⟩⟩:=h
 ·rw [h.1] at hg;cases hg
 ·cases hg;exact lt_of_block hh
theorem zg4 {w:World} {base:Nat} {e:TypeId} {v:Value} {ts:List Tok} {t:Tok} {xs:List Value} (h:w.ownsRow base e 5 v (ts.length+1) (ts.flatMap Tok.cells++xs)) (hx:xs=t.cells):w.ownsRow base e 5 v (ts++[t]).length ((ts++[t]).flatMap Tok.cells):=by
 subst hx;rw [List.flatMap_append,yA];simpa using h
theorem zm6 (s:ByteArray) (w:World) (hs:s.size<=9223372036854775807) (hG:Glob w) :
  Calls Tryz.prog 103 #[.string s] w fun e w'=>LexE w' e (lexS s.data.toList)/\Below w.heap.size w w':=by
 by_cases hl:s.size<=16384
 ·have hl1:¬ (s.size:Int) > 16384:=by omega
  have Hf:Hid (lexS s.data.toList=(lexF (s.data.toList.drop 0) 1 1).pre []):=zh (by rw [LexR.pre_nil,List.drop_zero,zcO,zaq,yN (by omega)]);generalize lexS s.data.toList=final at Hf ⊢;have HG:=zh hG;have h11:glB<=w.heap.size:=hG.size;clear hG;go_enter Tryz.func103,Tryz.ntmps103
  go_wp2_with fail
  go_loopg [2,3,4,5,7,8,9,17,18,19,20,21,22,23,24,25,26,27,28,29,30,31,32,33,34,35,36] (s.size+1) (fun g _ _ _ _ t7 _ _ _ _ _ _ _ _ _ _ _ _ _ _ _ _ _ _ _ _ _ _ wr=>∃ (at':Nat) (line col:Int) (ts:List Tok),g=s.size+1 - at'/\at'<=s.size/\ts.length<=at'/\(0<=line/\line<=at'+1)/\(0<=col/\col<=at'+1)/\wr.ownsRow (w.heap.size+1) 180 5 t7 ts.length (ts.flatMap Tok.cells)/\Hid (final=(lexF (s.data.toList.drop at') line col).pre ts)/\Hid (Scan wr w.heap.size line col s at')/\Hid (Below w.heap.size w wr))
  case atStart =>
   exact ⟨0,1,1,[],by omega,by omega,by simp,by omega,by omega,World.ownsRow_nil _ _ _ _,zh Hf.out,zh (OwnV.new w 220 [.int .i64 1,.int .i64 1,.string s,.int .i64 (0:Nat)]),zh ((yR _ _).alloc (zr _) _)⟩
  case round =>
   obtain ⟨at',line,col,ts,rfl,hat,hts,hl',hc',hown,Hk,HS,Hb⟩:=hrel;obtain ⟨j,L,C,hsk,haj,hjs,hL,hC,hN⟩:=zmm w.heap.size s at' line col wr HS.out hat hl hl' hc' (HG.out.below Hb.out h11) h11;have Hk2:Hid (final=(lexT (s.data.toList.drop j) L C).pre ts):=zh (by rw [Hk.out,zbY,hsk]);have HN:=zh hN;have Hown:=zh hown;have hwr:=Hb.out.size;clear hN hsk Hk hown;obtain ⟨hd,hhd⟩:∃ hd,zcG (s.data.toList.drop j)=hd:=⟨_,rfl⟩;rw [hhd] at HN;have Hhd:=zh hhd;clear hhd
   cases hd with
   | eof =>
    go_wp2_with fail
    go_at_call 127;refine HN.out.mono ?_;rintro e1 w2 ⟨rfl,hS2,hO2⟩;have Hb2:Hid (Below w.heap.size w w2):=zh (Hb.out.trans (hO2.below (fun k hk=>by have:k=w.heap.size:=hk;omega) hwr));have hown2:w2.ownsRow (w.heap.size+1) 180 5 u7 ts.length (ts.flatMap Tok.cells):=hO2.row Hown.out (fun g hg h=>by have h1:g=w.heap.size:=h;have:=zfK Hown.out hg;omega);clear hS2 hO2;have hown3:=hown2.alloc (.cells #[.int .u8 4,.string { data:=#[] },.int .i64 0,.int .i64 L,.int .i64 C] 180);have hbl:∀ g,u7.ownBlock=some g->g < w2.heap.size:=fun g hg=>zgf hown2 hg
    have Hbl:=zh hbl;have Hbw:=zh (Hb2.out.alloc Hb2.out.size (.cells #[.int .u8 4,.string { data:=#[] },.int .i64 0,.int .i64 L,.int .i64 C] 180));have hbase:w.heap.size+1<=(w2.alloc (.cells #[.int .u8 4,.string { data:=#[] },.int .i64 0,.int .i64 L,.int .i64 C] 180)).heap.size:=by have:=Hb2.out.size;simp;omega
    have Hbase:=zh hbase;clear hown2 hbl hbase;unfold Tok.cells;go_wp2_with (at_builtin;refine zbj rfl (.tmp 29) (.tmp 31) 171 rfl hown3 zg3 Tryz.underlying171 rfl (by decide) rfl 1 1 (by show Value.slice (some ⟨w2.heap.size+1,0,none⟩) 1 1=_;simp) rfl rfl (by unfold maxLen;omega) (by omega) Hbase.out ?_;intro v' w3 hown4 hg4 hb4 hat4;have k0:w3.cell? ⟨w2.heap.size,0,none⟩=some (.int .u8 4):=OwnV.cell ((OwnV.new w2 180 [.int .u8 4,.string { data:=#[] },.int .i64 0,.int .i64 L,.int .i64 C]).grown hg4 (fun e=>by have:=Hbl.out _ e.symm;omega)) rfl;have Hown4:=zh hown4;have Hb3:Hid (Below w.heap.size w w3):=zh (Hbw.out.trans (hb4.mono (by omega)));clear hown3 hown4 hg4 hb4 hat4)
    go_wp2_with fail
    exact yE (v:=.tuple #[v',.int .i64 0,.int .i64 0,.int .i64 0]) (by simp [results,Tryz.results103,go_sem]) rfl ⟨by rw [Hk2.out,zeS,Hhd.out];exact ⟨v',rfl,Sl.of_own (zg4 Hown4.out rfl)⟩,Hb3.out⟩
   | err code =>
    have hcode:=zmn Hhd.out;have hc0:(code != 0)=true:=by rcases hcode with rfl | rfl | rfl <;> rfl
    go_wp2_with fail
    go_at_call 127;refine HN.out.mono ?_;rintro e1 w2 ⟨⟨u1,u2,u3,rfl⟩,hO2⟩;have Hb2:Hid (Below w.heap.size w w2):=zh (Hb.out.trans (hO2.below (fun k hk=>by have:k=w.heap.size:=hk;omega) hwr));clear hO2;go_wp2_with fail
    refine zac (DrewOf _) (by kernel_rfl) (by kernel_rfl) (DrewOf.start _) ?_
    repeat
     try simp only [Act.put,zs1,zs3,zs2]
     apply stepsSeq.cons
     ·rintro w' ⟨nq,rfl⟩;simp only [Act.put,zs1,zs3,zs2];go_wp2_with (fail)
      first | exact ⟨rfl,nq,rfl⟩ | exact ⟨rfl,nq,(World.drewN_drewN _ _ _).symm⟩ | exact ⟨rfl,nq,by simp⟩
    try simp only [Act.put,zs1,zs3,zs2]
    refine stepsSeq.nil ?_;rintro w' ⟨nq,rfl⟩;go_wp2_with fail
    exact yE (v:=.tuple #[.slice none 0 0,.int .i64 L,.int .i64 C,.int .i64 code]) (by simp [results,Tryz.results103,go_sem]) rfl ⟨by rw [Hk2.out,zeS,Hhd.out];rfl,(Hb2.out.alloc Hb2.out.size _).trans ⟨rfl,rfl,rfl,zr _,fun _ _=>rfl⟩⟩
   | tok k t n =>
    obtain ⟨hk,ht1,ht2⟩:=zmo Hhd.out;rw [List.length_drop,zaq] at ht2;have hk4:(k == 4)=false:=by rcases hk with rfl | rfl | rfl <;> rfl
    go_wp2_with fail
    go_at_call 127;refine HN.out.mono ?_;rintro e1 w2 ⟨rfl,hS2,hO2⟩;have Hb2:Hid (Below w.heap.size w w2):=zh (Hb.out.trans (hO2.below (fun k hk=>by have:k=w.heap.size:=hk;omega) hwr));have hown2:w2.ownsRow (w.heap.size+1) 180 5 u7 ts.length (ts.flatMap Tok.cells):=hO2.row Hown.out (fun g hg h=>by have h1:g=w.heap.size:=h;have:=zfK Hown.out hg;omega);have HS2:=zh hS2;clear hS2 hO2 hk;have hown3:=hown2.alloc (.cells #[.int .u8 k,.string (bstr t),.int .i64 n,.int .i64 L,.int .i64 C] 180);have hbl:∀ g,u7.ownBlock=some g->g < w2.heap.size:=fun g hg=>zgf hown2 hg
    have Hbl:=zh hbl;have Hbw:=zh (Hb2.out.alloc Hb2.out.size (.cells #[.int .u8 k,.string (bstr t),.int .i64 n,.int .i64 L,.int .i64 C] 180));have hbase:w.heap.size+1<=(w2.alloc (.cells #[.int .u8 k,.string (bstr t),.int .i64 n,.int .i64 L,.int .i64 C] 180)).heap.size:=by have:=Hb2.out.size;simp;omega
    have Hbase:=zh hbase;have Hbs:Hid (∀ g,u7.ownBlock=some g->w.heap.size+1<=g):=zh (fun g hg=>zfK hown2 hg);clear hown2 hbl hbase;unfold Tok.cells;go_wp2_with (at_builtin;refine zbj rfl (.tmp 29) (.tmp 31) 171 rfl hown3 zg3 Tryz.underlying171 rfl (by decide) rfl 1 1 (by show Value.slice (some ⟨w2.heap.size+1,0,none⟩) 1 1=_;simp) rfl rfl (by unfold maxLen;omega) (by omega) Hbase.out ?_;intro v' w3 hown4 hg4 hb4 hat4;have k0:w3.cell? ⟨w2.heap.size,0,none⟩=some (.int .u8 k):=OwnV.cell ((OwnV.new w2 180 [.int .u8 k,.string (bstr t),.int .i64 n,.int .i64 L,.int .i64 C]).grown hg4 (fun e=>by have:=Hbl.out _ e.symm;omega)) rfl;have Hown4:=zh hown4;have Hb3:Hid (Below w.heap.size w w3):=zh (Hbw.out.trans (hb4.mono (by omega)));have HS3:Hid (Scan w3 w.heap.size L (C+t.length) s (j+t.length)):=zh (OwnV.grown (HS2.out.alloc _) hg4 (fun e=>by have h2:=Hbs.out _ e.symm;omega));clear hown3 hown4 hg4 hb4 hat4)
    go_wp2_with fail
    go_roundg (s.size+1 - (j+t.length))
    case measure=>omega
    case rel =>
     exact ⟨j+t.length,L,C+t.length,ts++[⟨k,t,n,L,C⟩],rfl,by omega,by simp;omega,by omega,by omega,zg4 Hown4.out rfl,zh (by rw [Hk2.out,zeS,Hhd.out];simp only [];rw [LexR.pre_cons,List.drop_drop]),zh HS3.out,zh Hb3.out⟩
 ·have hl1:(s.size:Int) > 16384:=by omega
  have Hf:Hid (lexS s.data.toList=.err 0 0 3):=zh (by rw [zcO,zaq,yP (by omega)]);generalize lexS s.data.toList=final at Hf ⊢;go_enter Tryz.func103,Tryz.ntmps103
  go_wp2_with fail
  exact yE (v:=.tuple #[.slice none 0 0,.int .i64 0,.int .i64 0,.int .i64 3]) (by simp [results,Tryz.results103,go_sem]) rfl ⟨by rw [Hf.out];rfl,yR _ _⟩
end Go.Proofs.YtdhikpkecmaplaaGreatDoor
