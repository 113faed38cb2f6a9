/- marcheslaw13.CompileSmall, walked: it answers true. -/
import Derived.Test.YtdeneckmoejcfaaWLimQs
import Derived.Test.YtdeneckmoejcfaaWNamQs
set_option linter.unusedSimpArgs false
set_option linter.unusedVariables false
set_option maxRecDepth 100000
set_option maxHeartbeats 16000000
namespace Go.Proofs.Ytdeneckmoejcfaa
open Go.RowKit
def small15 : znA := [⟨1, -5⟩, ⟨2, 0⟩, ⟨3, 0⟩, ⟨4, 7⟩, ⟨5, 7⟩, ⟨6, 0⟩, ⟨9, 9⟩, ⟨9, 13⟩, ⟨10, 0⟩, ⟨11, 0⟩, ⟨11, 4⟩, ⟨12, 2⟩, ⟨13, 4⟩, ⟨14, 0⟩, ⟨15, 0⟩]
theorem cells_set:∀ (c:znA) (k:Nat) (z:InsS),((znH c).set (k * 2) (.int .u8 z.op)).set (k * 2+1) (.int .i64 z.a)=znH (c.set k z)
 | [],_,_=>rfl
 | _ :: _,0,_=>rfl
 | x :: c,k+1,z=>by
  have h:=cells_set c k z;show (((Value.int .u8 x.op :: .int .i64 x.a :: znH c).set ((k+1) * 2) _).set ((k+1) * 2+1) _)=Value.int .u8 x.op :: .int .i64 x.a :: znH (c.set k z);rw [show (k+1) * 2=k * 2+1+1 by omega,<- h];rfl
theorem code_set {w:World} {B g cap:Nat} {e:TypeId} {c:znA} {n:Nat} (h:w.ownsRow B e 2 (.slice (some ⟨g,0,none⟩) n cap) n (znH c)) (k:Nat) (z:InsS):((w.setCell ⟨g,k * 2,none⟩ (.int .u8 z.op)).setCell ⟨g,k * 2+1,none⟩ (.int .i64 z.a)).ownsRow B e 2 (.slice (some ⟨g,0,none⟩) n cap) n (znH (c.set k z)):=by
 rw [<- cells_set];exact own_setTwo (own_setTwo h _ _) _ _
theorem program_ok (s:ByteArray) (w:World) (hs:s.size<=9223372036854775807):Calls Try.prog 20 #[.string s] w fun e w'=>∃ v l,e=.returned v/\okSs l/\szSs l<=100000/\SsL w' w'.heap.size l v/\Below w.heap.size w w':=
 (program_any s w hs).mono fun e w' ⟨v,he,h1,h2⟩=>⟨v,_,he,(progS_ok _).1,yT (progS_ok _).2 (by decide),h1,h2⟩
def QI (w : World) (bq : Nat) (q : ProgS) (v : Value) (wr : World) : Prop := OwnV wr bq 40 [v, .int .i64 q.locals, .int .u32 (w32 q.reads), .int .u32 (w32 q.writes)] /\ SlC wr q.code v /\ Below w.heap.size w wr
theorem QI.mono {w a b:World} {bq:Nat} {q:ProgS} {v:Value} (h:QI w bq q v a) (hb:Below a.heap.size a b):QI w bq q v b:=⟨h.1.below hb (zr _),h.2.1.below hb,h.2.2.trans (hb.mono h.2.2.size)⟩
theorem newbox (w:World) (e:TypeId) (vs:List Value):∃ W,W=w.alloc (.cells vs.toArray e)/\OwnV W w.heap.size e vs/\Below w.heap.size w W:=⟨_,rfl,OwnV.new _ _ _,(yR _ _).alloc (zr _) _⟩
theorem own_some {w:World} {B:Nat} {e:TypeId} {v:Value} {c:znA} (h:OwnC w B e v c) (hn:0 < c.length):∃ g cap,v=.slice (some ⟨g,0,none⟩) c.length cap/\c.length<=cap/\cap<=maxLen:=by
 obtain ⟨h1,h2⟩:=h;rcases h2 with ⟨h3,h4⟩ | ⟨g,cap,cur,rfl,hg,hh,hn,hm,hs,ht⟩
 ·omega
 ·exact ⟨g,cap,rfl,hn,hm⟩
def R18 (wk : World) (g cap bp : Nat) (q : ProgS) (c : znA) (W : World) : Prop := OwnC W wk.heap.size 35 (.slice (some ⟨g, 0, none⟩) c.length cap) c /\ OwnV W bp 29 [.slice (some ⟨g, 0, none⟩) c.length cap, .int .i64 q.locals, .int .u32 (w32 q.reads), .int .u32 (w32 q.writes)] /\ Below wk.heap.size wk W
theorem R18.alloc {wk W:World} {g cap bp:Nat} {q:ProgS} {c:znA} (h:R18 wk g cap bp q c W) (o:Obj):R18 wk g cap bp q c (W.alloc o):=
 ⟨h.1.below ((yR _ _).alloc (zr _) _),h.2.1.alloc o,h.2.2.alloc h.2.2.size o⟩
theorem R18.drew {wk W:World} {g cap bp:Nat} {q:ProgS} {c:znA} (h:R18 wk g cap bp q c W):R18 wk g cap bp q c W.drew:=⟨h.1.below (yR _ _).drew,h.2.1.drew,h.2.2.drew⟩
theorem R18.put {wk W:World} {g cap bp:Nat} {q:ProgS} {c:znA} (h:R18 wk g cap bp q c W) (hne:bp≠g) (i:Nat) (op a:Int):R18 wk g cap bp q (c.set i ⟨op,a⟩) ((W.setCell ⟨g,i * 2,none⟩ (.int .u8 op)).setCell ⟨g,i * 2+1,none⟩ (.int .i64 a)):=by
 obtain ⟨h1,h2,h3⟩:=h;have hg:wk.heap.size<=g:=(h1.lt g rfl).1;refine ⟨?_,?_,(h3.setCell (p:=⟨g,i * 2,none⟩) hg _).setCell (p:=⟨g,i * 2+1,none⟩) hg _⟩
 ·have:=code_set h1 i ⟨op,a⟩;unfold OwnC;rw [List.length_set];exact this
 ·rw [List.length_set];exact (h2.grown (zaY _ _ _ _) (by simpa using hne)).grown (zaY _ _ _ _) (by simpa using hne)
def phS (g4 r : Nat) : Nat -> (Nat -> Value) -> World -> Prop
  | 19, X, w => ∃ g, X 19 = .slice (some ⟨g, 0, none⟩) 5 5 /\ g4 < g /\ ∀ d, d < 5 -> ∃ u : Int, w.cell? ⟨g, d, none⟩ = some (.int .i64 u)
  | 22, X, w => ∃ g d, X 22 = .pointer (some ⟨g, d, none⟩) /\ g4 < g /\ ∃ u : Int, w.cell? ⟨g, d, none⟩ = some (.int .i64 u)
  | 23, X, _ => ∃ u : Int, X 23 = .int .i64 u
  | 24, X, _ => ∃ u : Int, X 24 = .agg #[.int .u8 r, .int .i64 u]
  | _, _, _ => True
def gS (g4 i : Nat) : Nat -> World -> World -> Prop
  | 19, w, w' => Below w.heap.size w w'
  | 26, w, w' => ∃ x y : Int, w' = (w.setCell ⟨g4, i * 2, none⟩ (.int .u8 x)).setCell ⟨g4, i * 2 + 1, none⟩ (.int .i64 y)
  | _, w, w' => w' = w
def hS (wk : World) (g4 cap4 bp : Nat) (q : ProgS) (w : World) : Prop := ∃ c : znA, c.length = q.code.length /\ R18 wk g4 cap4 bp q c w
theorem hS_below {wk w:World} {g4 cap4 bp:Nat} {q:ProgS} (h:hS wk g4 cap4 bp q w):Below wk.heap.size wk w:=h.elim fun _ h=>h.2.2.2
theorem hS_lt {wk w:World} {g4 cap4 bp:Nat} {q:ProgS} (h:hS wk g4 cap4 bp q w):g4 < w.heap.size:=h.elim fun _ h=>(h.2.1.lt g4 rfl).2
theorem R18.mono {wk W W':World} {g cap bp:Nat} {q:ProgS} {c:znA} (h:R18 wk g cap bp q c W) (hb:Below W.heap.size W W'):R18 wk g cap bp q c W':=
 ⟨h.1.below hb,h.2.1.below hb (zr _),h.2.2.trans (hb.mono h.2.2.size)⟩
theorem hS_st {wk:World} {g4 cap4 bp k:Nat} {q:ProgS} (hne:bp≠g4) (i:Nat) (w w':World) (h:hS wk g4 cap4 bp q w) (g:gS g4 k i w w'):hS wk g4 cap4 bp q w':=by
 obtain ⟨c,hl,h⟩:=h;unfold gS at g;split at g
 ·exact ⟨c,hl,h.mono g⟩
 ·obtain ⟨x,y,rfl⟩:=g;exact ⟨_,by rw [List.length_set];exact hl,h.put hne k x y⟩
 ·rw [g];exact ⟨c,hl,h⟩
theorem set2_keep {w:World} {g4 g d i:Nat} {x y:Value} {v:Value} (hg:g4 < g) (h:w.cell? ⟨g,d,none⟩=some v):((w.setCell ⟨g4,i * 2,none⟩ x).setCell ⟨g4,i * 2+1,none⟩ y).cell? ⟨g,d,none⟩=some v:=
 (((Only.refl (fun k=>k=g4) w).setIn rfl x).setIn rfl y).cell h (by show ¬ g=g4;omega)
theorem phS_st {wk:World} {g4 cap4 bp r k:Nat} {q:ProgS} (i j:Nat) (X:Nat->Value) (w w':World) (hij:i≠j) (hp:phS g4 r j X w) (_:hS wk g4 cap4 bp q w) (g:gS g4 k i w w'):phS g4 r j X w':=by
 unfold phS at hp ⊢;split at hp
 ·obtain ⟨b,e,hb,h⟩:=hp;refine ⟨b,e,hb,fun d hd=>(h d hd).elim fun u hu=>⟨u,?_⟩⟩;unfold gS at g;split at g
  ·exact Below.keep g hu
  ·obtain ⟨x,y,rfl⟩:=g;exact set2_keep hb hu
  ·rw [g];exact hu
 ·obtain ⟨b,d,e,hb,u,hu⟩:=hp;refine ⟨b,d,e,hb,u,?_⟩;unfold gS at g;split at g
  ·exact Below.keep g hu
  ·obtain ⟨x,y,rfl⟩:=g;exact set2_keep hb hu
  ·rw [g];exact hu
 ·exact hp
 ·exact hp
 ·trivial
theorem phS_loc {g4 r i j:Nat} {X:Nat->Value} {v:Value} {w:World} (hij:i≠j) (hp:phS g4 r j X w):phS g4 r j (updX X i v) w:=by
 have hj:updX X i v j=X j:=yN (fun e=>hij e.symm);unfold phS at hp ⊢;split at hp
 ·rw [hj];exact hp
 ·rw [hj];exact hp
 ·rw [hj];exact hp
 ·rw [hj];exact hp
 ·trivial
theorem five_row (w:World) (e:TypeId) (a b c d f:Int):∀ j,j < 5->∃ u:Int,(w.alloc (.cells #[.int .i64 a,.int .i64 b,.int .i64 c,.int .i64 d,.int .i64 f] e)).cell? ⟨w.heap.size,j,none⟩=some (.int .i64 u):=by
 intro j hj;have h:=OwnV.new w e [.int .i64 a,.int .i64 b,.int .i64 c,.int .i64 d,.int .i64 f];have:j=0∨j=1∨j=2∨j=3∨j=4:=by omega
 rcases this with rfl | rfl | rfl | rfl | rfl
 ·exact ⟨a,h.cell rfl⟩
 ·exact ⟨b,h.cell rfl⟩
 ·exact ⟨c,h.cell rfl⟩
 ·exact ⟨d,h.cell rfl⟩
 ·exact ⟨f,h.cell rfl⟩
theorem rowbox (w:World) (X Y:List Value) (tX tY:TypeId):∃ W,W=((w.alloc (.cells X.toArray tX)).alloc (.cells Y.toArray tY)).drew/\Below w.heap.size w W/\OwnV W w.heap.size tX X/\OwnV W (w.heap.size+1) tY Y:=by
 refine ⟨_,rfl,(((yR _ _).alloc (zr _) _).alloc (by simp) _).drew,((OwnV.new w tX X).alloc _).drew,?_⟩;have:=OwnV.new (w.alloc (.cells X.toArray tX)) tY Y;exact OwnV.drew (by simpa using this)
theorem row4 {W:World} {g B:Nat} {x0 x1 x2 x3 y0 y1 y2 y3:Int} (h:OwnV W g 35 [.int .u8 x0,.int .i64 y0,.int .u8 x1,.int .i64 y1,.int .u8 x2,.int .i64 y2,.int .u8 x3,.int .i64 y3]) (hB:B<=g):OwnC W B 35 (.slice (some ⟨g,0,none⟩) 4 4) [⟨x0,y0⟩,⟨x1,y1⟩,⟨x2,y2⟩,⟨x3,y3⟩]:=
 ⟨rfl,.inr ⟨g,4,_,rfl,hB,h,zr _,by decide,rfl,rfl⟩⟩
theorem set23 {W:World} {g n cap B bx:Nat} {c:znA} {x0 x1 x2 x3 y2 y3:Value} (hO:OwnC W B 35 (.slice (some ⟨g,0,none⟩) n cap) c) (hX:OwnV W bx 29 [x0,x1,x2,x3]) (hne:g≠bx):SlC ((W.setCell ⟨bx,2,none⟩ y2).setCell ⟨bx,3,none⟩ y3) c (.slice (some ⟨g,0,none⟩) n cap)/\OwnV ((W.setCell ⟨bx,2,none⟩ y2).setCell ⟨bx,3,none⟩ y3) bx 29 [x0,x1,y2,y3]:=
 ⟨OwnC.sl (zdB (zdB hO (fun b e=>by cases e;exact hne) 2 y2) (fun b e=>by cases e;exact hne) 3 y3),(hX.set 2 y2).set 3 y3⟩
theorem six_a (w:World) (x0 y0 x1 y1 x2 y2 x3 y3:Int):∃ W,W=((w.alloc (.cells #[.int .u8 x0,.int .i64 y0,.int .u8 x1,.int .i64 y1,.int .u8 x2,.int .i64 y2,.int .u8 x3,.int .i64 y3] 35)).alloc (.cells #[.slice (some ⟨w.heap.size,0,none⟩) 4 4,.int .i64 1,.int .u32 0,.int .u32 0] 29)).drew/\Below w.heap.size w W/\OwnC W w.heap.size 35 (.slice (some ⟨w.heap.size,0,none⟩) 4 4) [⟨x0,y0⟩,⟨x1,y1⟩,⟨x2,y2⟩,⟨x3,y3⟩]/\OwnV W (w.heap.size+1) 29 [.slice (some ⟨w.heap.size,0,none⟩) 4 4,.int .i64 1,.int .u32 0,.int .u32 0]/\w.heap.size≠w.heap.size+1/\w.heap.size<=w.heap.size+1:=by
 obtain ⟨W,h1,h2,h3,h4⟩:=rowbox w [.int .u8 x0,.int .i64 y0,.int .u8 x1,.int .i64 y1,.int .u8 x2,.int .i64 y2,.int .u8 x3,.int .i64 y3] [.slice (some ⟨w.heap.size,0,none⟩) 4 4,.int .i64 1,.int .u32 0,.int .u32 0] 35 29;exact ⟨W,h1,h2,row4 h3 (zr _),h4,by omega,by omega⟩
theorem six_b (w:World) (x0 y0 x1 y1 x2 y2 x3 y3:Int):∃ W,W=((w.alloc (.cells #[.slice (some ⟨w.heap.size+1,0,none⟩) 4 4,.int .i64 1,.int .u32 0,.int .u32 0] 29)).alloc (.cells #[.int .u8 x0,.int .i64 y0,.int .u8 x1,.int .i64 y1,.int .u8 x2,.int .i64 y2,.int .u8 x3,.int .i64 y3] 35)).drew/\Below w.heap.size w W/\OwnC W w.heap.size 35 (.slice (some ⟨w.heap.size+1,0,none⟩) 4 4) [⟨x0,y0⟩,⟨x1,y1⟩,⟨x2,y2⟩,⟨x3,y3⟩]/\OwnV W w.heap.size 29 [.slice (some ⟨w.heap.size+1,0,none⟩) 4 4,.int .i64 1,.int .u32 0,.int .u32 0]/\w.heap.size+1≠w.heap.size/\w.heap.size<=w.heap.size:=by
 obtain ⟨W,h1,h2,h3,h4⟩:=rowbox w [.slice (some ⟨w.heap.size+1,0,none⟩) 4 4,.int .i64 1,.int .u32 0,.int .u32 0] [.int .u8 x0,.int .i64 y0,.int .u8 x1,.int .i64 y1,.int .u8 x2,.int .i64 y2,.int .u8 x3,.int .i64 y3] 29 35;exact ⟨W,h1,h2,row4 h4 (by omega),h3,by omega,zr _⟩
theorem compileSmall_any (w:World):Calls Try.prog 5 #[] w fun e w'=>e=.returned (.bool true)/\Below w.heap.size w w':=by
  go_enter Try.func5,Try.ntmps5
  obtain ⟨d0,hd0,hP0,hb0⟩:∃ d,d=w.alloc (.cells #[.int .i64 1,.int .i64 (-5),.int .i64 2,.int .i64 0,.int .i64 3,.int .i64 0,.int .i64 4,.int .i64 7,.int .i64 5,.int .i64 7,.int .i64 6,.int .i64 0,.int .i64 9,.int .i64 9,.int .i64 9,.int .i64 13,.int .i64 10,.int .i64 0,.int .i64 11,.int .i64 0,.int .i64 11,.int .i64 4,.int .i64 12,.int .i64 2,.int .i64 13,.int .i64 4,.int .i64 14,.int .i64 0,.int .i64 15,.int .i64 0] 32)/\Pairs d small15 (.slice (some ⟨w.heap.size,0,none⟩) 15 15)/\Below w.heap.size w d:=⟨_,rfl,zb7 (OwnV.new w 32 [.int .i64 1,.int .i64 (-5),.int .i64 2,.int .i64 0,.int .i64 3,.int .i64 0,.int .i64 4,.int .i64 7,.int .i64 5,.int .i64 7,.int .i64 6,.int .i64 0,.int .i64 9,.int .i64 9,.int .i64 9,.int .i64 13,.int .i64 10,.int .i64 0,.int .i64 11,.int .i64 0,.int .i64 11,.int .i64 4,.int .i64 12,.int .i64 2,.int .i64 13,.int .i64 4,.int .i64 14,.int .i64 0,.int .i64 15,.int .i64 0]) rfl (by decide) (by decide),(yR _ _).alloc (zr _) _⟩
  have HK0:=zh (code_any small15 _ d0 hP0 (by decide) (by decide))
  have HWd:=zh hd0
  have Hbd:=zh hb0
  clear hd0 hP0 hb0
  go_wp2_with fail
  rw [<- HWd.out]
  refine HK0.out.mono ?_
  rintro e1 c0 ⟨⟨u0,rfl,hO⟩,hc⟩
  have hV:SlC c0 small15 u0:=OwnC.sl hO
  obtain ⟨y0,z0,rfl,_,_⟩:=Sl.form hV
  have hlen:small15.length=15:=rfl
  rw [hlen] at hV ⊢
  have HV:=zh hV
  have HB0:=zh (Hbd.out.trans (hc.mono Hbd.out.size))
  clear hc hO hV hlen HK0 HWd Hbd
  go_wp2_with fail
  go_loopw [0,3,4,29,30,31,32,33,34,35,36,37,38,39,40,41,42,43,44,45,46,47,48,49,50,51,52,53,54,55,56,57,58,59,60,61,62,63,64,65,66,67,68,69,70,71,72,73,74,75,76,77,78,79,80,81,82,83,84,85,86,87] (fun _ t3 _ _ _ _ _ _ _ _ _ _ _ _ _ _ _ _ _ _ _ _ _ _ _ _ _ _ _ _ _ _ _ _ _ _ _ _ _ _ _ _ _ _ _ _ _ _ _ _ _ _ _ _ _ _ _ _ _ _ _ _ wr=>∃ i:Nat,i<=50625/\t3=.int .i64 i/\Hid (SlC wr small15 (.slice y0 15 z0))/\Hid (Below w.heap.size w wr)) (fun _ t3 _ _ _ _ _ _ _ _ _ _ _ _ _ _ _ _ _ _ _ _ _ _ _ _ _ _ _ _ _ _ _ _ _ _ _ _ _ _ _ _ _ _ _ _ _ _ _ _ _ _ _ _ _ _ _ _ _ _ _ _ _=>50625 - (intOf t3).toNat)
  case atStart=>exact ⟨0,by omega,by first | rfl | go_num,HV,HB0⟩
  case round =>
    obtain ⟨i,hi,rfl,HS,HB⟩:=hrel
    obtain ⟨wo,rfl⟩:∃ wo:World,wo=wr:=⟨_,rfl⟩
    by_cases hil:i < 50625
    · have hii:(i:Int) < 50625:=by omega
      obtain ⟨a1,ha1⟩:∃ a,a=i / 15:=⟨_,rfl⟩
      obtain ⟨a2,ha2⟩:∃ a,a=a1 / 15:=⟨_,rfl⟩
      obtain ⟨r3,hr3⟩:∃ a,a=a2 / 15:=⟨_,rfl⟩
      obtain ⟨r0,hr0⟩:∃ a,a=i % 15:=⟨_,rfl⟩
      obtain ⟨r1,hr1⟩:∃ a,a=a1 % 15:=⟨_,rfl⟩
      obtain ⟨r2,hr2⟩:∃ a,a=a2 % 15:=⟨_,rfl⟩
      have e1:IntKind.i64.wrap ((i:Int) / 15)=(a1:Int):=by rw [IntWalk.i64_in _ (by omega)];omega
      have e2:IntKind.i64.wrap ((a1:Int) / 15)=(a2:Int):=by rw [IntWalk.i64_in _ (by omega)];omega
      have e3:IntKind.i64.wrap ((a2:Int) / 15)=(r3:Int):=by rw [IntWalk.i64_in _ (by omega)];omega
      have f0:(i:Int) % 15=(r0:Int):=by omega
      have f1:(a1:Int) % 15=(r1:Int):=by omega
      have f2:(a2:Int) % 15=(r2:Int):=by omega
      have w0:IntKind.i64.wrap ((i:Int) % 15)=(r0:Int):=by rw [IntWalk.i64_in _ (by omega)];omega
      have w1:IntKind.i64.wrap ((a1:Int) % 15)=(r1:Int):=by rw [IntWalk.i64_in _ (by omega)];omega
      have w2:IntKind.i64.wrap ((a2:Int) % 15)=(r2:Int):=by rw [IntWalk.i64_in _ (by omega)];omega
      have t0:(i:Int).tmod 15=(r0:Int):=by rw [Int.tmod_eq_emod_of_nonneg (by omega)];omega
      have t1:(a1:Int).tmod 15=(r1:Int):=by rw [Int.tmod_eq_emod_of_nonneg (by omega)];omega
      have t2:(a2:Int).tmod 15=(r2:Int):=by rw [Int.tmod_eq_emod_of_nonneg (by omega)];omega
      have g0:r0 < 15:=by omega
      have g1:r1 < 15:=by omega
      have g2:r2 < 15:=by omega
      have g3:r3 < 15:=by omega
      have k0:(r0:Int) < 15:=by omega
      have k1:(r1:Int) < 15:=by omega
      have k2:(r2:Int) < 15:=by omega
      have k3:(r3:Int) < 15:=by omega
      have Hil:=zh hil
      have Hwi:=zh (IntWalk.wrap64_in ((i:Int)+1) (by omega))
      clear ha1 ha2 hr0 hr1 hr2 hr3 hi hil
      obtain ⟨b,off,rfl,hbw,c00,c01⟩:=HS.out.at (k:=r0) g0
      obtain ⟨b1,o1,hq1,-,c10,c11⟩:=HS.out.at (k:=r1) g1
      obtain ⟨b2,o2,hq2,-,c20,c21⟩:=HS.out.at (k:=r2) g2
      obtain ⟨b3,o3,hq3,-,c30,c31⟩:=HS.out.at (k:=r3) g3
      cases hq1
      cases hq2
      cases hq3
      generalize small15[r0]=q0 at *
      generalize small15[r1]=q1 at *
      generalize small15[r2]=q2 at *
      generalize small15[r3]=q3 at *
      obtain ⟨x0,y0⟩:=q0
      obtain ⟨x1,y1⟩:=q1
      obtain ⟨x2,y2⟩:=q2
      obtain ⟨x3,y3⟩:=q3
      simp only at c00 c01 c10 c11 c20 c21 c30 c31
      go_upto_region 6 with (fail)
      go_region_held3 (fun w'=>w'.cell? ⟨b,off+r0 * 2,none⟩=some (.int .u8 x0)/\w'.cell? ⟨b,off+r0 * 2+1,none⟩=some (.int .i64 y0)/\w'.cell? ⟨b,off+r1 * 2,none⟩=some (.int .u8 x1)/\w'.cell? ⟨b,off+r1 * 2+1,none⟩=some (.int .i64 y1)/\w'.cell? ⟨b,off+r2 * 2,none⟩=some (.int .u8 x2)/\w'.cell? ⟨b,off+r2 * 2+1,none⟩=some (.int .i64 y2)/\w'.cell? ⟨b,off+r3 * 2,none⟩=some (.int .u8 x3)/\w'.cell? ⟨b,off+r3 * 2+1,none⟩=some (.int .i64 y3)) (go_keep) (fail)
      all_goals
        rename_i hH
        clear hH c00 c01 c10 c11 c20 c21 c30 c31
        go_upto_region 7 with (fail)
        first
          | (obtain ⟨W6, hW6, hb6, hO6, hX6, hne, hBx⟩ := six_a wo x0 y0 x1 y1 x2 y2 x3 y3
             rw [<- hW6])
          | (obtain ⟨W6, hW6, hb6, hO6, hX6, hne, hBx⟩ := six_b wo x0 y0 x1 y1 x2 y2 x3 y3
             rw [<- hW6])
        clear hW6 hii e1 e2 e3 f0 f1 f2 w0 w1 w2 t0 t1 t2 g0 g1 g2 g3 k0 k1 k2 k3
        have Hne:=zh hne
        have HBx:=zh hBx
        clear hne hBx
        obtain ⟨c4,hc4,hl4⟩:∃ c:znA,c=[⟨x0,y0⟩,⟨x1,y1⟩,⟨x2,y2⟩,⟨x3,y3⟩]/\c.length=4:=⟨_,rfl,rfl⟩
        rw [<- hc4] at hO6
        have Hl4:=zh hl4
        have HG:=zh (given_any ⟨c4,1,0,0⟩ _ W6 (OwnC.sl hO6) (by show c4.length<=1000000;omega))
        clear hc4 hl4
        unfold zow at HG
        simp only [show w32 0=0 from rfl] at HG
        have HO6:=zh hO6
        have HX6:=zh hX6
        have Hb6:=zh hb6
        obtain ⟨x0,x1,x2,x3⟩:=yc4 hX6
        clear hO6 hX6 hb6
        go_wp2_with fail
        refine HG.out.mono ?_
        rintro e7 w7 ⟨⟨v7,rfl,hS7⟩,hb7⟩
        obtain ⟨s7,t7,rfl,-,-⟩:=Sl.form hS7
        have hfc:=fun u=>field_code s7 c4.length t7 (.int .i64 1) (.int .u32 0) (.int .u32 0) u
        have HX7:=zh (HX6.out.below hb7 (zr _))
        have HO7:=zh (HO6.out.below hb7)
        have Hb7:=zh (Hb6.out.trans (hb7.mono Hb6.out.size))
        have HR7:=zh (rmasks_any c4 _ w7 hS7 (by have:=Hl4.out;omega))
        clear hb7 hS7 x0 x1 x2 x3 HX6 HO6 Hb6 HG
        go_wp2_with fail
        refine HR7.out.mono ?_
        rintro e8 w8 ⟨rfl,rfl⟩
        clear hfc HR7
        generalize znW 4 c4=m4 at *
        generalize znW 5 c4=m5 at *
        have yf:=HX7.out.free
        have ylt:=HX7.out.lt
        have x2:=HX7.out.cell (i:=2) rfl
        have x3:=HX7.out.cell (i:=3) rfl
        obtain ⟨hS9,hX9⟩:=set23 HO7.out HX7.out Hne.out (y2:=.int .u32 (w32 m4)) (y3:=.int .u32 (w32 m5))
        have HC:=zh (zrH ⟨c4,1,m4,m5⟩ _ _ hS9 (by show c4.length<=1000000;have:=Hl4.out;omega))
        unfold zow at HC
        simp only at HC
        have Hb9:=zh ((Hb7.out.setCell HBx.out (.int .u32 (w32 m4)) (p:=⟨_,2,none⟩)).setCell HBx.out (.int .u32 (w32 m5)) (p:=⟨_,3,none⟩))
        obtain ⟨z0,z1,z2,z3⟩:=yc4 hX9
        clear hS9 HO7 Hb7 hX9
        go_wp2_with fail
        refine HC.out.mono ?_
        rintro e10 w10 ⟨rfl,hb10⟩
        have Hb10:=zh (Hb9.out.trans (hb10.mono Hb9.out.size))
        clear hb10 z0 z1 z2 z3 yf ylt x2 x3 HC
        go_wp2_with fail
        go_roundw
        case rel=>exact ⟨i+1,by have:=Hil.out;omega,congrArg _ (by rw [Hwi.out];omega),zh (HS.out.below (Hb10.out)),zh (HB.out.trans (Hb10.out.mono HB.out.size))⟩
        case measure=>rw [Hwi.out];have:=Hil.out;simp [intOf];omega
    · have hii:¬ (i:Int) < 50625:=by omega
      have HW0:=zh HB.out.size
      go_wp2_with fail
      clear hi hil hii
      refine (program_ok _ wo (by decide)).mono ?_
      rintro e1 w1 ⟨v1,lq,rfl,hO1,hZ1,hL1,hb1⟩
      have HO1:=zh hO1
      have HZ1:=zh hZ1
      have HL1:=zh hL1
      have Hb1:=zh (HB.out.trans (hb1.mono HB.out.size))
      clear hb1 hL1 hO1 hZ1
      go_wp2_with fail
      refine (rcomp_any lq v1 w1 w1.heap.size HO1.out HZ1.out HL1.out (zr _)).mono ?_
      rintro e2 w2 ⟨hP2,hb2⟩
      obtain ⟨⟨a2,cap2,rfl,hS2⟩,-⟩:=prog_res hP2
      have HB2:=zh (Hb1.out.trans (hb2.mono Hb1.out.size))
      have HS2:=zh hS2
      have hln:=resP_len lq
      generalize resP (zol lq)=q at HS2 hln
      generalize resK (zol lq)=eq at *
      obtain ⟨W3,hW3,hX3,hb3⟩:=newbox w2 40 [.slice a2 q.code.length cap2,.int .i64 q.locals,.int .u32 (w32 q.reads),.int .u32 (w32 q.writes)]
      have HQ3:Hid (QI w w2.heap.size q (.slice a2 q.code.length cap2) W3):=zh ⟨hX3,HS2.out.below hb3,HB2.out.trans (hb3.mono HB2.out.size)⟩
      have HW3:=zh hW3
      have Hln:=zh hln
      clear hP2 hb2 hS2 hW3 hX3 hb3 hln HS2 HB2 Hb1 HL1 HO1 HZ1
      unfold zow
      go_upto_region 11 with (fail)
      rw [<- HW3.out]
      clear HW3
      go_wp2_with fail
      go_loopw [0,7,8,9,93,94,95,96,97,98,99,100,101,102,103,104,105,106,107,108,109,110,111,112,113,114,115,116,117,118,119,120,121,122,123,124,125,126,127,128,129,130,131,132,133,134,135,136,137,138,139,140,141,142,143] (fun _ t7 _ _ _ _ _ _ _ _ _ _ _ _ _ _ _ _ _ _ _ _ _ _ _ _ _ _ _ _ _ _ _ _ _ _ _ _ _ _ _ _ _ _ _ _ _ _ _ _ _ _ _ _ _ wr=>∃ i:Nat,i<=q.code.length/\t7=.int .i64 i/\Hid (QI w w2.heap.size q (.slice a2 q.code.length cap2) wr)) (fun _ t7 _ _ _ _ _ _ _ _ _ _ _ _ _ _ _ _ _ _ _ _ _ _ _ _ _ _ _ _ _ _ _ _ _ _ _ _ _ _ _ _ _ _ _ _ _ _ _ _ _ _ _ _ _ _=>q.code.length - (intOf t7).toNat)
      case atStart=>exact ⟨0,by omega,by first | rfl | go_num,HQ3⟩
      case round =>
        obtain ⟨i,hi,rfl,HQ⟩:=hrel
        have hll:=Hln.out
        have x0:=HQ.out.1.cell (i:=0) rfl
        by_cases hil:i < q.code.length
        · have hii:(i:Int) < (q.code.length:Int):=by omega
          have Hi:=zh hil
          clear hll
          go_wp2_with fail
          clear x0 hi hil hii
          go_loopw [0,8,9,100,101,102,103,104,105,106,107,108,109,110,111,112,113,114,115,116,117,118,119,120,121,122,123,124,125,126,127,128,129,130,131,132,133,134,135,136,137,138,139,140,141,142,143] (fun _ t8 _ _ _ _ _ _ _ _ _ _ _ _ _ _ _ _ _ _ _ _ _ _ _ _ _ _ _ _ _ _ _ _ _ _ _ _ _ _ _ _ _ _ _ _ _ wr=>∃ k:Nat,k<=85/\t8=.int .i64 k/\Hid (QI w w2.heap.size q (.slice a2 q.code.length cap2) wr)) (fun _ t8 _ _ _ _ _ _ _ _ _ _ _ _ _ _ _ _ _ _ _ _ _ _ _ _ _ _ _ _ _ _ _ _ _ _ _ _ _ _ _ _ _ _ _ _ _ _=>85 - (intOf t8).toNat)
          case atStart=>exact ⟨0,by omega,by first | rfl | go_num,HQ⟩
          case round =>
            obtain ⟨k,hk,rfl,HQk⟩:=hrel
            obtain ⟨wk,rfl⟩:∃ wk:World,wk=wr:=⟨_,rfl⟩
            by_cases hkl:k < 85
            · have hki:(k:Int) < 85:=by omega
              obtain ⟨x0,x1,x2,x3⟩:=yc4 HQk.out.1
              have HT:=zh (taken_own q _ wk HQk.out.2.1 (by have:=Hln.out;omega))
              unfold zow at HT
              go_wp2_with fail
              refine HT.out.mono ?_
              rintro e4 w4 ⟨⟨v4,rfl,hO4⟩,hb4⟩
              obtain ⟨g4,cap4,rfl,hg4,hc4⟩:=own_some hO4 (by have:=Hi.out;omega)
              obtain ⟨W5,hW5,hX5,hb5⟩:=newbox w4 29 [.slice (some ⟨g4,0,none⟩) q.code.length cap4,.int .i64 q.locals,.int .u32 (w32 q.reads),.int .u32 (w32 q.writes)]
              have HO5:=zh (hO4.below hb5)
              have HQ5:=zh ((HQk.out.mono hb4).mono hb5)
              have HB5:=zh (hb4.trans (hb5.mono hb4.size))
              have HX5:=zh hX5
              have HW5:=zh hW5
              have hgl:g4 < w4.heap.size:=(hO4.lt g4 rfl).2
              have hwg:wk.heap.size<=g4:=(hO4.lt g4 rfl).1
              have hq2:w2.heap.size < wk.heap.size:=HQk.out.1.lt
              clear hW5 hX5 hb5 hb4 hO4 x0 x1 x2 x3 HT
              have HR5:Hid (R18 wk g4 cap4 w4.heap.size q q.code W5):=zh ⟨HO5.out,HX5.out,HB5.out⟩
              have hil:=Hi.out
              have hii:(i:Int) < (q.code.length:Int):=by omega
              have Hne:Hid (w4.heap.size≠g4):=zh (by omega)
              obtain ⟨bq,oq,rfl,-,-,d1⟩:=SlC.at HQk.out.2.1 hil
              obtain ⟨a,ha⟩:∃ a,q.code[i].a=a:=⟨_,rfl⟩
              rw [ha] at d1
              have Hd1:=zh d1
              obtain ⟨r,hr,hr17⟩:∃ r:Nat,(k:Int).tmod 17=(r:Int)/\r < 17:=⟨k % 17,by rw [Int.tmod_eq_emod_of_nonneg (by omega)];omega,by omega⟩
              have Hr8:Hid (IntKind.u8.wrap (r:Int)=(r:Int)):=zh (by simp [IntKind.wrap,IntKind.bits,IntKind.signed];omega)
              have Hr:=zh hr
              obtain ⟨d,hd⟩:∃ d:Nat,d=k / 17:=⟨_,rfl⟩
              have Hwd:Hid (IntKind.i64.wrap ((k:Int) / 17)=(d:Int)):=zh (by rw [IntWalk.i64_in _ (by omega)];omega)
              have hd5:d < 5:=by omega
              have hd5i:(d:Int) < 5:=by omega
              obtain ⟨a1,ha1⟩:∃ a1,IntKind.i64.wrap (a+1)=a1:=⟨_,rfl⟩
              have Ha1:=zh ha1
              have Hgl:=zh hgl
              clear hd hgl hwg hq2 hr hr17 ha1 d1 ha
              go_upto_region 18 with (fail)
              rw [<- HW5.out]
              clear HW5
              go_cut [] (fun wx=>hS wk g4 cap4 w4.heap.size q wx)
              case first =>
                refine zoO [some (.pointer (some ⟨w4.heap.size,0,none⟩)),some (.slice (some ⟨g4,0,none⟩) q.code.length cap4),some (.int .i64 i),some (.int .i64 k),some (.int .i64 r),some (.int .u8 r),some (.pointer (some ⟨w2.heap.size,0,none⟩)),some (.slice (some ⟨bq,oq,none⟩) q.code.length cap2),some (.int .i64 i),some (.pointer (some ⟨bq,oq+i * 2,none⟩)),some (.pointer (some ⟨bq,oq+i * 2+1,none⟩)),some (.int .i64 a),some (.pointer (some ⟨w2.heap.size,0,none⟩)),some (.slice (some ⟨bq,oq,none⟩) q.code.length cap2),some (.int .i64 i),some (.pointer (some ⟨bq,oq+i * 2,none⟩)),some (.pointer (some ⟨bq,oq+i * 2+1,none⟩)),some (.int .i64 a),some (.int .i64 a1),none,some (.int .i64 k),some (.int .i64 d),none,none,none,some (.pointer (some ⟨g4,i * 2,none⟩)),none] (phS g4 r) (gS g4 i) (hS wk g4 cap4 w4.heap.size q) (by kernel_rfl) (by kernel_rfl) rfl ⟨_,rfl,HR5.out.drew⟩ (hS_st Hne.out) phS_st (fun i j X v w hij _ hp=>phS_loc hij hp) (fun j X w h=>by unfold phS;split <;> first | trivial | (simp at h)) ?_ ?_
                · simp only [zfb,zos,zob,zoc,zot,Nat.reduceAdd,Act.put,zs1,zs3,zs2]
                  refine stepsG.cons ?_ (stepsG.cons ?_ (stepsG.cons ?_ (stepsG.cons ?_ (stepsG.cons ?_ (stepsG.cons ?_ (stepsG.cons ?_ (stepsG.cons ?_ (stepsG.cons ?_ (stepsG.cons ?_ (stepsG.cons ?_ (stepsG.cons ?_ (stepsG.cons ?_ (stepsG.cons ?_ (stepsG.cons ?_ (stepsG.cons ?_ (stepsG.cons ?_ (stepsG.cons ?_ (stepsG.cons ?_ (stepsG.cons ?_ (stepsG.cons ?_ (stepsG.cons ?_ (stepsG.cons ?_ (stepsG.cons ?_ (stepsG.cons ?_ (stepsG.cons ?_ (stepsG.cons ?_ (stepsG.nil)))))))))))))))))))))))))))
                  · intro X w6 hH hw
                    clear hw hH
                    go_wp2_with fail
                    exact ⟨⟨_,rfl,rfl⟩,rfl⟩
                  · intro X w6 hH hw
                    obtain ⟨c,hcl,hR⟩:=hH
                    have hx:=hR.2.1
                    rw [hcl] at hx
                    have c0:=hx.cell (i:=0) rfl
                    clear hw hR hx hcl
                    go_wp2_with fail
                    exact ⟨⟨_,rfl,rfl⟩,rfl⟩
                  · intro X w6 hH hw
                    clear hw hH
                    go_wp2_with fail
                    exact ⟨⟨_,rfl,rfl⟩,rfl⟩
                  · intro X w6 hH hw
                    clear hw hH
                    go_wp2_with fail
                    exact ⟨⟨_,rfl,rfl⟩,rfl⟩
                  · intro X w6 hH hw
                    clear hw hH
                    have t4:=Hr.out
                    go_wp2_with fail
                    exact ⟨⟨_,rfl,rfl⟩,rfl⟩
                  · intro X w6 hH hw
                    clear hw hH
                    have t5:=Hr8.out
                    go_wp2_with fail
                    exact ⟨⟨_,rfl,rfl⟩,rfl⟩
                  · intro X w6 hH hw
                    clear hw hH
                    go_wp2_with fail
                    exact ⟨⟨_,rfl,rfl⟩,rfl⟩
                  · intro X w6 hH hw
                    have y0:=(HQk.out.1.below (hS_below hH) (zr _)).cell (i:=0) rfl
                    clear hw hH
                    go_wp2_with fail
                    exact ⟨⟨_,rfl,rfl⟩,rfl⟩
                  · intro X w6 hH hw
                    clear hw hH
                    go_wp2_with fail
                    exact ⟨⟨_,rfl,rfl⟩,rfl⟩
                  · intro X w6 hH hw
                    clear hw hH
                    go_wp2_with fail
                    exact ⟨⟨_,rfl,rfl⟩,rfl⟩
                  · intro X w6 hH hw
                    clear hw hH
                    go_wp2_with fail
                    exact ⟨⟨_,rfl,rfl⟩,rfl⟩
                  · intro X w6 hH hw
                    have d1:=Below.keep (hS_below hH) Hd1.out
                    clear hw hH
                    go_wp2_with fail
                    exact ⟨⟨_,rfl,rfl⟩,rfl⟩
                  · intro X w6 hH hw
                    clear hw hH
                    go_wp2_with fail
                    exact ⟨⟨_,rfl,rfl⟩,rfl⟩
                  · intro X w6 hH hw
                    have y0:=(HQk.out.1.below (hS_below hH) (zr _)).cell (i:=0) rfl
                    clear hw hH
                    go_wp2_with fail
                    exact ⟨⟨_,rfl,rfl⟩,rfl⟩
                  · intro X w6 hH hw
                    clear hw hH
                    go_wp2_with fail
                    exact ⟨⟨_,rfl,rfl⟩,rfl⟩
                  · intro X w6 hH hw
                    clear hw hH
                    go_wp2_with fail
                    exact ⟨⟨_,rfl,rfl⟩,rfl⟩
                  · intro X w6 hH hw
                    clear hw hH
                    go_wp2_with fail
                    exact ⟨⟨_,rfl,rfl⟩,rfl⟩
                  · intro X w6 hH hw
                    have d1:=Below.keep (hS_below hH) Hd1.out
                    clear hw hH
                    go_wp2_with fail
                    exact ⟨⟨_,rfl,rfl⟩,rfl⟩
                  · intro X w6 hH hw
                    clear hw hH
                    have t18:=Ha1.out
                    go_wp2_with fail
                    exact ⟨⟨_,rfl,rfl⟩,rfl⟩
                  · intro X w6 hH hw
                    have hs6:=hS_lt hH
                    clear hw hH
                    go_wp2_with fail
                    exact ⟨⟨_,rfl,⟨_,rfl,hs6,five_row _ _ _ _ _ _ _⟩⟩,(yR _ _).alloc (zr _) _⟩
                  · intro X w6 hH hw
                    clear hw hH
                    go_wp2_with fail
                    exact ⟨⟨_,rfl,rfl⟩,rfl⟩
                  · intro X w6 hH hw
                    clear hw hH
                    have t21:=Hwd.out
                    go_wp2_with fail
                    exact ⟨⟨_,rfl,rfl⟩,rfl⟩
                  · intro X w6 hH hw
                    obtain ⟨g,e,hg,hu⟩:=hw 19 (by kernel_rfl)
                    rw [e]
                    have hu:=zh (hu d hd5)
                    clear hw hH e
                    go_wp2_with fail
                    exact ⟨⟨_,rfl,⟨g,d,by first | rfl | simp,hg,hu.out⟩⟩,rfl⟩
                  · intro X w6 hH hw
                    obtain ⟨g,o,e,hg,u,hu⟩:=hw 22 (by kernel_rfl)
                    rw [e]
                    clear hw hH e
                    go_wp2_with fail
                    exact ⟨⟨_,rfl,⟨u,rfl⟩⟩,rfl⟩
                  · intro X w6 hH hw
                    obtain ⟨u,e⟩:=hw 23 (by kernel_rfl)
                    rw [e]
                    clear hw hH e
                    go_wp2_with fail
                    exact ⟨⟨_,rfl,⟨u,rfl⟩⟩,rfl⟩
                  · intro X w6 hH hw
                    clear hw hH
                    have t25:=hii
                    go_wp2_with fail
                    exact ⟨⟨_,rfl,rfl⟩,rfl⟩
                  · intro X w6 hH hw
                    obtain ⟨u,e⟩:=hw 24 (by kernel_rfl)
                    rw [e]
                    obtain ⟨c,hcl,hR⟩:=hH
                    obtain ⟨e0,e1,ef⟩:=own_at hR.1 (k:=i) (by omega)
                    generalize c[i]=z at e0 e1
                    have hg6:g4 < w6.heap.size:=(hR.1.lt g4 rfl).2
                    obtain ⟨W7,hW7⟩:∃ W,W=(w6.setCell ⟨g4,i * 2,none⟩ (.int .u8 r)).setCell ⟨g4,i * 2+1,none⟩ (.int .i64 u):=⟨_,rfl⟩
                    have HW7:=zh hW7
                    clear hw e hR hcl hW7
                    go_wp2_with fail
                    rw [<- HW7.out]
                    exact ⟨⟨undef,rfl,trivial⟩,⟨_,_,HW7.out⟩⟩
                · intro X w6 hH hp
                  obtain ⟨c,hcl,hR⟩:=hH
                  clear hp
                  simp only [zfb,zos,zob,zoc,zot,Nat.reduceAdd,Act.put,zs1,zs3,zs2]
                  go_wp2_with fail
                  go_meet
                  exact ⟨c,hcl,hR⟩
              case rest =>
                obtain ⟨c6,hl6,hR6⟩:=hcut
                unfold R18 at hR6
                rw [hl6] at hR6
                have Hl6:Hid (c6.length<=1000000):=zh (by have:=Hln.out;omega)
                have Hll:=zh hl6
                have HG:=zh (given_any ⟨c6,q.locals,q.reads,q.writes⟩ _ wc (OwnC.sl hR6.1) Hl6.out)
                unfold zow at HG
                simp only at HG
                have HO6:=zh hR6.1
                have HX6:=zh hR6.2.1
                have Hb6:=zh hR6.2.2
                have hgk:wk.heap.size<=g4:=(hR6.1.lt g4 rfl).1
                have hbk:wk.heap.size<=w4.heap.size:=yT hgk (Nat.le_of_lt Hgl.out)
                have Hbk:=zh hbk
                obtain ⟨x0,x1,x2,x3⟩:=yc4 HX6.out
                have hng:g4≠w4.heap.size:=fun e=>Hne.out e.symm
                have Hng:=zh hng
                clear hR6 hl6 hgk hbk hng hd5 hd5i Hd1 Hr Hr8 Hwd Ha1
                go_wp2_with fail
                refine HG.out.mono ?_
                rintro e7 w7 ⟨⟨v7,rfl,hS7⟩,hb7⟩
                obtain ⟨s7,t7,rfl,-,-⟩:=Sl.form hS7
                have hfc:=fun u=>field_code s7 c6.length t7 (.int .i64 q.locals) (.int .u32 (w32 q.reads)) (.int .u32 (w32 q.writes)) u
                have HX7:=zh (HX6.out.below hb7 (zr _))
                have HO7:=zh (HO6.out.below hb7)
                have Hb7:=zh (Hb6.out.trans (hb7.mono Hb6.out.size))
                have HR7:=zh (rmasks_any c6 _ w7 hS7 Hl6.out)
                clear hb7 hS7 x0 x1 x2 x3 HX6 HO6 Hb6 HG
                go_wp2_with fail
                refine HR7.out.mono ?_
                rintro e8 w8 ⟨rfl,rfl⟩
                clear hfc HR7
                generalize znW 4 c6=m4 at *
                generalize znW 5 c6=m5 at *
                have yf:=HX7.out.free
                have ylt:=HX7.out.lt
                have x2:=HX7.out.cell (i:=2) rfl
                have x3:=HX7.out.cell (i:=3) rfl
                obtain ⟨hS9,hX9⟩:=set23 HO7.out HX7.out Hng.out (y2:=.int .u32 (w32 m4)) (y3:=.int .u32 (w32 m5))
                have HC:=zh (zrH ⟨c6,q.locals,m4,m5⟩ _ _ hS9 Hl6.out)
                unfold zow at HC
                simp only at HC
                have Hb9:=zh ((Hb7.out.setCell Hbk.out (.int .u32 (w32 m4)) (p:=⟨_,2,none⟩)).setCell Hbk.out (.int .u32 (w32 m5)) (p:=⟨_,3,none⟩))
                obtain ⟨z0,z1,z2,z3⟩:=yc4 hX9
                clear hS9 HO7 Hb7 hX9
                go_wp2_with fail
                refine HC.out.mono ?_
                rintro e10 w10 ⟨rfl,hb10⟩
                have Hb10:=zh (Hb9.out.trans (hb10.mono Hb9.out.size))
                clear hb10 z0 z1 z2 z3 yf ylt x2 x3 HC
                go_wp2_with fail
                go_roundw
                case rel=>exact ⟨k+1,by omega,congrArg _ (by omega),zh (HQk.out.mono Hb10.out)⟩
                case measure=>simp [intOf];omega
            · have hki:¬ (k:Int) < 85:=by omega
              have hil:=Hi.out
              have hll:=Hln.out
              go_wp2_with fail
              exact ⟨⟨i+1,by omega,congrArg _ (by omega),HQk⟩,by simp [intOf];omega⟩
        · have hii:¬ (i:Int) < (q.code.length:Int):=by omega
          clear hll
          go_wp2_with fail
          have HB9:=zh HQ.out.2.2
          refine (names_any wr).mono ?_
          rintro e5 w5 ⟨rfl,hb5⟩
          have HB5:=zh (HB9.out.trans (hb5.mono HB9.out.size))
          clear hb5 x0
          go_wp2_with fail
          refine (limits_any w5).mono ?_
          rintro e6 w6 ⟨rfl,hb6⟩
          have HB6:=zh (HB5.out.trans (hb6.mono HB5.out.size))
          clear hb6
          go_wp2_with fail
          refine (awake_any w6).mono ?_
          rintro e7 w7 ⟨rfl,hb7⟩
          have HB7:=zh (HB6.out.trans (hb7.mono HB6.out.size))
          clear hb7
          go_wp2_with fail
          go_ret
          exact ⟨rfl,HB7.out⟩
end Go.Proofs.Ytdeneckmoejcfaa
