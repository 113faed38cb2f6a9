/- The patches of a book: when they are right, put in, taken out, applied; R tells which source is right for which slot. Plain mathematics. -/
import Derived.Test.YtdhikpkecmaplaaGreatDoorRegionMk
set_option linter.unusedSimpArgs false
set_option linter.unusedVariables false
set_option maxHeartbeats 400000
namespace Go.Proofs.YtdhikpkecmaplaaGreatDoor
structure Pt where
  tick : Int
  slot : Int
  src : List UInt8
def Pt.same (x y : Pt) : Bool := x.tick == y.tick && x.slot == y.slot
theorem Pt.same_iff {x y:Pt}:x.same y=true ↔ x.tick=y.tick/\x.slot=y.slot:=by
 unfold Pt.same;rw [yC,beq_iff_eq,beq_iff_eq]
theorem Pt.same_comm (x y:Pt):x.same y=y.same x:=by
 rw [Bool.eq_iff_iff,Pt.same_iff,Pt.same_iff];constructor <;> (rintro ⟨h1,h2⟩;exact ⟨h1.symm,h2.symm⟩)
def zn7 (mx : Int) (n : Nat) (R : Int -> List UInt8 -> Bool) : Int -> List Pt -> List Pt -> Bool
  | _, _, [] => true
  | last, before, x :: r => (decide (last <= x.tick) && decide (x.tick <= mx) && decide (0 <= x.slot) && decide (x.slot < n) && R x.slot x.src && !(before.any fun y => y.same x)) && zn7 mx n R x.tick (before ++ [x]) r
def PG (mx : Int) (n : Nat) (R : Int -> List UInt8 -> Bool) (last : Int) (before l : List Pt) : Prop :=
  (∀ x ∈ l, last <= x.tick /\ x.tick <= mx /\ 0 <= x.slot /\ x.slot < n /\ R x.slot x.src = true /\ ∀ y ∈ before, y.same x = false) /\ l.Pairwise fun x y => x.tick <= y.tick /\ x.same y = false
theorem zsy {mx:Int} {n:Nat} {R:Int->List UInt8->Bool}:∀ (l:List Pt) (last:Int) (before:List Pt),zn7 mx n R last before l=true ↔ PG mx n R last before l:=by
 intro l
 induction l with
 | nil=>intro last before;exact ⟨fun _=>⟨fun x h=>(by cases h),.nil⟩,fun _=>rfl⟩
 | cons x r ih =>
  intro last before;rw [zn7];simp only [yC,yQ,Bool.not_eq_true',List.any_eq_false,ih,Bool.not_eq_true];constructor
  ·rintro ⟨⟨⟨⟨⟨⟨h1,h2⟩,h3⟩,h4⟩,h5⟩,h6⟩,h7,h8⟩;refine ⟨fun y hy=>?_,?_⟩
   ·rcases List.mem_cons.1 hy with rfl | hy
    ·exact ⟨h1,h2,h3,h4,h5,fun z hz=>by simpa using h6 z hz⟩
    ·obtain ⟨a1,a2,a3,a4,a5,a6⟩:=h7 y hy;exact ⟨by omega,a2,a3,a4,a5,fun z hz=>a6 z (List.mem_append_left _ hz)⟩
   ·refine List.pairwise_cons.2 ⟨fun y hy=>?_,h8⟩;obtain ⟨a1,-,-,-,-,a6⟩:=h7 y hy;exact ⟨a1,a6 x (by simp)⟩
  ·rintro ⟨h,hp⟩;obtain ⟨hp1,hp2⟩:=List.pairwise_cons.1 hp;obtain ⟨h1,h2,h3,h4,h5,h6⟩:=h x (by simp);refine ⟨⟨⟨⟨⟨⟨h1,h2⟩,h3⟩,h4⟩,h5⟩,fun z hz=>by simpa using h6 z hz⟩,fun y hy=>?_,hp2⟩;obtain ⟨-,a2,a3,a4,a5,a6⟩:=h y (List.mem_cons_of_mem _ hy);refine ⟨(hp1 y hy).1,a2,a3,a4,a5,fun z hz=>?_⟩;rcases List.mem_append.1 hz with hz | hz
   ·exact a6 z hz
   ·obtain rfl:z=x:=by simpa using hz
    exact (hp1 y hy).2
def upTo (t : Int) (l : List Pt) : List Pt := l.takeWhile fun x => decide (x.tick <= t)
def znZ (t : Int) (l : List Pt) : List Pt := l.dropWhile fun x => decide (x.tick <= t)
theorem zpZ (t:Int) (l:List Pt):upTo t l++znZ t l=l:=List.takeWhile_append_dropWhile
theorem up_le {t:Int}:∀ {l:List Pt} {x:Pt},x ∈ upTo t l->x.tick<=t:=by
 intro l;unfold upTo
 induction l with
 | nil=>intro x h;cases h
 | cons y r ih =>
  intro x h;rw [List.takeWhile_cons] at h;split at h
  ·rename_i hy
   rcases List.mem_cons.1 h with rfl | h
   ·simpa using hy
   ·exact ih h
  ·cases h
theorem zrR {t:Int}:∀ {l:List Pt},(l.Pairwise fun x y=>x.tick<=y.tick/\x.same y=false)->∀ x ∈ znZ t l,t < x.tick:=by
 intro l
 induction l with
 | nil=>intro _ x h;cases h
 | cons y r ih =>
  intro hp x hx;obtain ⟨h1,h2⟩:=List.pairwise_cons.1 hp;unfold znZ at hx;rw [List.dropWhile_cons] at hx;by_cases hy:y.tick<=t
  ·rw [yP (by simpa using hy)] at hx;exact ih h2 x hx
  ·rw [yN (by simpa using hy)] at hx;rcases List.mem_cons.1 hx with rfl | hx
   ·omega
   ·have:=(h1 x hx).1;omega
def zok (p : Pt) (l : List Pt) : List Pt := upTo p.tick l ++ p :: znZ p.tick l
theorem zrk (p:Pt) (l:List Pt):(zok p l).length=l.length+1:=by
 have:=congrArg List.length (zpZ p.tick l);unfold zok
 rw [yA] at *
 rw [yB];omega
theorem mem_put {p x:Pt} {l:List Pt}:x ∈ zok p l ↔ x=p∨x ∈ l:=by
 unfold zok;rw [List.mem_append,List.mem_cons];have:x ∈ l ↔ x ∈ upTo p.tick l∨x ∈ znZ p.tick l:=by rw [<- List.mem_append,zpZ]
 rw [this];constructor
 ·rintro (h | h | h)
  ·exact .inr (.inl h)
  ·exact .inl h
  ·exact .inr (.inr h)
 ·rintro (h | h | h)
  ·exact .inr (.inl h)
  ·exact .inl h
  ·exact .inr (.inr h)
theorem pg_put {mx:Int} {n:Nat} {R:Int->List UInt8->Bool} {last:Int} {l:List Pt} {p:Pt} (h:PG mx n R last [] l) (h1:last<=p.tick) (h2:p.tick<=mx) (h3:0<=p.slot) (h4:p.slot < n) (h5:R p.slot p.src=true) (h6:∀ x ∈ l,x.same p=false):PG mx n R last [] (zok p l):=by
 obtain ⟨a,b⟩:=h;refine ⟨fun x hx=>?_,?_⟩
 ·rcases mem_put.1 hx with rfl | hx
  ·exact ⟨h1,h2,h3,h4,h5,fun y hy=>by cases hy⟩
  ·exact a x hx
 ·have hu:(upTo p.tick l).Sublist l:=List.takeWhile_sublist _;have hd:(znZ p.tick l).Sublist l:=List.dropWhile_sublist _;unfold zok;refine List.pairwise_append.2 ⟨b.sublist hu,List.pairwise_cons.2 ⟨fun y hy=>⟨by have:=zrR b y hy;omega,by rw [Pt.same_comm];exact h6 y (hd.subset hy)⟩,b.sublist hd⟩,fun x hx y hy=>?_⟩;rcases List.mem_cons.1 hy with rfl | hy
  ·exact ⟨up_le hx,h6 x (hu.subset hx)⟩
  ·have hb:=b;rw [<- zpZ p.tick l] at hb;exact (List.pairwise_append.1 hb).2.2 x hx y hy
structure Bk where
  tick : Int
  scr : List (List UInt8)
  pend : List Pt
def rOf (E : Int -> List UInt8 -> Int) (s : Int) (src : List UInt8) : Bool := E s src == 0
def zoN (R : Int -> List UInt8 -> Bool) : Nat -> List (List UInt8) -> Bool
  | _, [] => true
  | k, x :: r => R k x && zoN R (k + 1) r
theorem ztx {R:Int->List UInt8->Bool}:∀ (l:List (List UInt8)) (k:Nat),zoN R k l=true ↔ ∀ i x,l[i]? = some x->R ((k+i:Nat):Int) x=true:=by
 intro l
 induction l with
 | nil=>intro k;exact ⟨fun _ i x h=>by simp at h,fun _=>rfl⟩
 | cons y r ih =>
  intro k;rw [zoN,yC,ih];constructor
  ·rintro ⟨h1,h2⟩ i x h
   cases i with
   | zero=>cases h;exact h1
   | succ i =>
    rw [show k+(i+1)=k+1+i by omega];exact h2 i x (by simpa using h)
  ·intro h;exact ⟨h 0 y rfl,fun i x hx=>by rw [show k+1+i=k+(i+1) by omega];exact h (i+1) x (by simpa using hx)⟩
def znM (base : Nat -> Bool) (R : Int -> List UInt8 -> Bool) (b : Bk) : Bool :=
  decide (0 <= b.tick) && decide (b.tick <= 1073741824) && base b.scr.length && decide (b.scr.length <= 16) && decide (b.pend.length <= 32) && zoN R 0 b.scr && zn7 1073741824 b.scr.length R (b.tick + 1) [] b.pend
structure VB (base : Nat -> Bool) (R : Int -> List UInt8 -> Bool) (b : Bk) : Prop where
  lo : 0 <= b.tick
  hi : b.tick <= 1073741824
  sys : base b.scr.length = true
  many : b.scr.length <= 16
  room : b.pend.length <= 32
  scr : ∀ (i : Nat) (x : List UInt8), b.scr[i]? = some x -> R i x = true
  pend : PG 1073741824 b.scr.length R (b.tick + 1) [] b.pend
theorem valid_iff {base:Nat->Bool} {R:Int->List UInt8->Bool} {b:Bk}:znM base R b=true ↔ VB base R b:=by
 unfold znM;simp only [yC,yQ,ztx,zsy,Nat.zero_add];constructor
 ·rintro ⟨⟨⟨⟨⟨⟨h1,h2⟩,h3⟩,h4⟩,h5⟩,h6⟩,h7⟩;exact ⟨h1,h2,h3,h4,h5,h6,h7⟩
 ·intro h;exact ⟨⟨⟨⟨⟨⟨h.lo,h.hi⟩,h.sys⟩,h.many⟩,h.room⟩,h.scr⟩,h.pend⟩
def zn4 (scr : List (List UInt8)) (l : List Pt) : List (List UInt8) := l.foldl (fun s p => s.set p.slot.toNat p.src) scr
theorem zpz:∀ (l:List Pt) (scr:List (List UInt8)),(zn4 scr l).length=scr.length:=by
 intro l
 induction l with
 | nil=>intro scr;rfl
 | cons p r ih=>intro scr;show (zn4 (scr.set _ _) r).length=_;rw [ih,List.length_set]
theorem zrS (scr:List (List UInt8)) (a b:List Pt):zn4 scr (a++b)=zn4 (zn4 scr a) b:=List.foldl_append ..
def advB (t : Int) (b : Bk) : Bk := ⟨t, zn4 b.scr (upTo t b.pend), znZ t b.pend⟩
def zoe (base : Nat -> Bool) (R : Int -> List UInt8 -> Bool) (b : Bk) (t : Int) : Option (Bk × List Pt) × Int :=
  if znM base R b = false ∨ t < 0 ∨ 1073741824 < t then (none, 2) else if t < b.tick then (none, 400) else (some (advB t b, upTo t b.pend), 0)
def znO (base : Nat -> Bool) (E : Int -> List UInt8 -> Int) (b : Bk) (p : Pt) : Option Bk × Bool × Int :=
  if znM base (rOf E) b = false ∨ 1073741824 < p.tick then (none, false, 2)
  else if p.tick <= b.tick then (none, false, 400)
  else if p.slot < 0 ∨ (b.scr.length : Int) <= p.slot then (none, false, 6)
  else if E p.slot p.src ≠ 0 then (none, true, E p.slot p.src)
  else if (b.pend.any fun x => x.same p) = true then (none, false, 402)
  else if 32 <= b.pend.length then (none, false, 4)
  else (some { b with pend := zok p b.pend }, false, 0)
theorem zqF {base:Nat->Bool} {E:Int->List UInt8->Int} {b c:Bk} {p:Pt} {q:Bool} (h:znO base E b p=(some c,q,0)):VB base (rOf E) b/\VB base (rOf E) c/\c={ b with pend:=zok p b.pend }/\(∀ x ∈ b.pend,x.same p=false)/\b.tick < p.tick/\p.tick<=1073741824/\0<=p.slot/\p.slot < b.scr.length/\E p.slot p.src=0:=by
 unfold znO at h;split at h
 ·cases h
 ·rename_i h1
  split at h
  ·cases h
  ·rename_i h2
   split at h
   ·cases h
   ·rename_i h3
    split at h
    ·cases h
    ·rename_i h4
     split at h
     ·cases h
     ·rename_i h5
      split at h
      ·cases h
      ·rename_i h6
       cases h
       have hv:VB base (rOf E) b:=by
        refine valid_iff.1 ?_
        cases hb:znM base (rOf E) b with
        | true=>rfl
        | false=>exact absurd (.inl hb) h1
       have h4':E p.slot p.src=0:=by
        rcases Int.decEq (E p.slot p.src) 0 with e | e
        ·exact absurd e h4
        ·exact e
       have hs:∀ x ∈ b.pend,x.same p=false:=by
        intro x hx
        cases e:x.same p with
        | false=>rfl
        | true=>exact absurd (List.any_eq_true.2 ⟨x,hx,e⟩) h5
       refine ⟨hv,⟨hv.lo,hv.hi,hv.sys,hv.many,?_,hv.scr,?_⟩,rfl,hs,by omega,by omega,by omega,by omega,h4'⟩
       ·show (zok p b.pend).length<=32;rw [zrk];omega
       ·show PG 1073741824 b.scr.length (rOf E) (b.tick+1) [] (zok p b.pend);exact pg_put hv.pend (by omega) (by omega) (by omega) (by omega) (by unfold rOf;rw [h4'];rfl) hs
open Go.RowKit

structure Sys where
  name : ByteArray
  rd : BitVec 32
  wr : BitVec 32
  pg : Int
def Sys.cells (s : Sys) : List Value := [.string s.name, .int .u32 (w32 s.rd), .int .u32 (w32 s.wr), .int .i64 s.pg]
def Sys.val (s : Sys) : Value := .agg #[.string s.name, .int .u32 (w32 s.rd), .int .u32 (w32 s.wr), .int .i64 s.pg]
def Sys.ok (s : Sys) : Prop := s.name.size <= 9223372036854775807 /\ -9223372036854775808 <= s.pg /\ s.pg <= 9223372036854775807
def Syss (w : World) (l : List Sys) (v : Value) : Prop := Sl w 4 l.length (l.flatMap Sys.cells) v
theorem Syss.below {w w':World} {l:List Sys} {v:Value} {B:Nat} (h:Syss w l v) (hb:Below B w w') (hB:w.heap.size<=B):Syss w' l v:=Sl.below (by omega) h hb hB
theorem zsB (l:List Sys) (k:Nat) (h:k < l.length):((l.flatMap Sys.cells)[k * 4]? = some (.string l[k].name)/\(l.flatMap Sys.cells)[k * 4+1]? = some (.int .u32 (w32 l[k].rd))/\(l.flatMap Sys.cells)[k * 4+2]? = some (.int .u32 (w32 l[k].wr))/\(l.flatMap Sys.cells)[k * 4+3]? = some (.int .i64 l[k].pg)):=by
 have f:=zeW Sys.cells 4 (fun _=>rfl) l k h;exact ⟨f 0 (by omega),f 1 (by omega),f 2 (by omega),f 3 (by omega)⟩

theorem Syss.at {w:World} {l:List Sys} {a:Option Addr} {n cap:Nat} (h:Syss w l (.slice a n cap)) {k:Nat} (hk:k < l.length) :
  ∃ b off,a=some ⟨b,off,none⟩/\b < w.heap.size/\∀ (k:Nat) (h:k < l.length),w.cell? ⟨b,off+k * 4,none⟩=some (.string l[k].name)/\w.cell? ⟨b,off+k * 4+1,none⟩=some (.int .u32 (w32 l[k].rd))/\w.cell? ⟨b,off+k * 4+2,none⟩=some (.int .u32 (w32 l[k].wr))/\w.cell? ⟨b,off+k * 4+3,none⟩=some (.int .i64 l[k].pg):=by
 obtain ⟨b,off,e,hlt,hc⟩:=Sl.at (by omega) h (by omega);refine ⟨b,off,e,hlt,fun k hk=>?_⟩;obtain ⟨c0,c1,c2,c3⟩:=zsB l k hk;have d0:=hc (k * 4) (by omega);have d1:=hc (k * 4+1) (by omega);have d2:=hc (k * 4+2) (by omega);have d3:=hc (k * 4+3) (by omega);rw [c0] at d0;rw [c1] at d1;rw [c2] at d2;rw [c3] at d3;exact ⟨d0,d1,d2,d3⟩
theorem Syss.form {w:World} {l:List Sys} {v:Value} (h:Syss w l v):∃ a cap,v=.slice a l.length cap/\l.length<=cap/\cap<=9223372036854775807:=Sl.form h

/-! maps from int to int -/
theorem zsC (w:World):(zeroValue 3).run Tryz.prog w=.ok (.int .i64 0) w:=by kernel_rfl
def IMap (w : World) (b n : Nat) (has : Int -> Bool) (val : Int -> Int) : Prop :=
  ∃ D : DataW Unit, w.ownsMap Tryz.prog 3 (plainElem Tryz.prog 3) b n D /\ (∀ k, Maps.has D (.int .i64 k) = has k) /\ ∀ k, D.atKey (.int .i64 k) (.lit (.int .i64 0)) = .lit (.int .i64 (val k))
theorem IMap.made (w:World):IMap (w.alloc (.map #[] 0)) w.heap.size 0 (fun _=>false) (fun _=>0):=
 ⟨.map [],World.ownsMap_made w _ _ _,fun _=>rfl,fun _=>rfl⟩
theorem IMap.below {w w':World} {b n:Nat} {has:Int->Bool} {val:Int->Int} {B:Nat} (h:IMap w b n has val) (hb:Below B w w') (hB:w.heap.size<=B):IMap w' b n has val:=by
 obtain ⟨D,h1,h2,h3⟩:=h;exact ⟨D,zqi h1 hb hB,h2,h3⟩
theorem IMap.lt {w:World} {b n:Nat} {has:Int->Bool} {val:Int->Int} (h:IMap w b n has val):b < w.heap.size:=by obtain ⟨D,h1,_⟩:=h;exact h1.lt
theorem IMap.alloc {w:World} {b n:Nat} {has:Int->Bool} {val:Int->Int} (h:IMap w b n has val) (o:Obj):IMap (w.alloc o) b n has val:=by
 obtain ⟨D,h1,h2,h3⟩:=h;exact ⟨D,h1.alloc o,h2,h3⟩
theorem IMap.drew {w:World} {b n:Nat} {has:Int->Bool} {val:Int->Int} (h:IMap w b n has val):IMap w.drew b n has val:=h
theorem IMap.congr {w:World} {b n:Nat} {has has':Int->Bool} {val val':Int->Int} (h:IMap w b n has val) {n':Nat} (hn:n<=n') (h1:∀ k,has k=has' k) (h2:∀ k,val k=val' k):IMap w b n' has' val':=by
 obtain ⟨D,a,b,c⟩:=h;exact ⟨D,a.mono hn,fun k=>(b k).trans (h1 k),fun k=>(c k).trans (by rw [h2])⟩
section
variable {ops : Array Oper} {rest : List Oper} {o : Oper} {a : Act} {Q : Exit -> Act -> World -> Prop} {w : World}
end

theorem zqX:Maps.Keyed Tryz.prog 9:=Maps.string_keyed Tryz.underlying9
def SMap (w : World) (b n : Nat) (val : List UInt8 -> Int) : Prop :=
  ∃ D : DataW Unit, w.ownsMap Tryz.prog 9 (plainElem Tryz.prog 3) b n D /\ ∀ k, D.atKey (.string k) (.lit (.int .i64 0)) = .lit (.int .i64 (val k))
theorem SMap.made (w:World):SMap (w.alloc (.map #[] 0)) w.heap.size 0 (fun _=>0):=
 ⟨.map [],World.ownsMap_made w _ _ _,fun _=>rfl⟩
theorem SMap.alloc {w:World} {b n:Nat} {val:List UInt8->Int} (h:SMap w b n val) (o:Obj):SMap (w.alloc o) b n val:=by
 obtain ⟨D,h1,h3⟩:=h;exact ⟨D,h1.alloc o,h3⟩
theorem SMap.congr {w:World} {b n:Nat} {val val':List UInt8->Int} (h:SMap w b n val) {n':Nat} (hn:n<=n') (h2:∀ k,val k=val' k):SMap w b n' val':=by
 obtain ⟨D,a,c⟩:=h;exact ⟨D,a.mono hn,fun k=>(c k).trans (by rw [h2])⟩
theorem SMap.lt {w:World} {b n:Nat} {val:List UInt8->Int} (h:SMap w b n val):b < w.heap.size:=by obtain ⟨D,h1,_⟩:=h;exact h1.lt
theorem skey {s:ByteArray} (hs:s.size<=9223372036854775807):keyOf Tryz.prog 9 (.string s)=some (.string s.data.toList):=by
 simp [keyOf,Tryz.underlying9,mapKey,maxLen,hs]
section
variable {ops : Array Oper} {rest : List Oper} {o : Oper} {a : Act} {Q : Exit -> Act -> World -> Prop} {w : World}
theorem zod (hg:o.guard=none) (m x:Operand) (hop:o.op=Op.lookup 162 m x false) {b n:Nat} {val:List UInt8->Int} (h:SMap w b n val)
  (hm:a.eval m=.map (some b)) (key:ByteArray) (hx:a.eval x=.string key) (hkey:key.size<=9223372036854775807)
  (hK:(Lit.int .i64 (val key.data.toList)).wf=true->wpList Tryz.prog ops Q rest (a.put o.dst (.int .i64 (val key.data.toList))) w):wpList Tryz.prog ops Q (o :: rest) a w:=by
 obtain ⟨D,h1,h3⟩:=h;refine wpList_lookup_own_int w hg m x 162 hop 9 3 .i64 zqX Tryz.underlying162 Tryz.underlying3 (zsC w) b n D hm h1 (.string key) (.string key.data.toList) hx (skey hkey) ?_;intro c hat hwc;rw [h3 key.data.toList] at hat;have e:val key.data.toList=c:=by simpa using hat
 rw [e] at hK;exact hK hwc
theorem zoX (hg:o.guard=none) (m x v:Operand) (hop:o.op=Op.mapUpdate 162 m x v) {b n:Nat} {val:List UInt8->Int} (h:SMap w b n val)
  (hm:a.eval m=.map (some b)) (key:ByteArray) (c:Int) (hx:a.eval x=.string key) (hv:a.eval v=.int .i64 c) (hkey:key.size<=9223372036854775807) (hc:(Lit.int .i64 c).wf=true) (hn:n < maxLen)
  (hK:∀ w',SMap w' b (n+1) (fun k=>if k=key.data.toList then c else val k)->w.grownBy w' (some b)->wpList Tryz.prog ops Q rest (a.put o.dst undef) w'):wpList Tryz.prog ops Q (o :: rest) a w:=by
 obtain ⟨D,h1,h3⟩:=h;refine wpList_mapUpdate_own w hg m x v 162 hop 9 3 zqX Tryz.underlying162 _ b n D hm h1 hn (.string key) (.int .i64 c) (.string key.data.toList) hx hv (skey hkey) (.lit (.int .i64 c)) [] (plainElem_int Tryz.underlying3 hc) ?_;intro w' hown hgr;have hD:Maps.IsMap D:=(h1.tidy zqX).isMap;have hkl:WideAt.IsKeyLit (.string key.data.toList):=trivial;refine hK w' ⟨_,hown,fun k=>?_⟩ hgr;by_cases e:k=key.data.toList
 ·subst e;rw [Maps.atKey_put_same hD hkl];simp
 ·rw [Maps.atKey_put_other (by simpa using e),h3];simp [e]
end

def okY (s : Sys) : Bool := decide (1 <= s.name.size) && (decide (s.name.size <= 24) && (s.rd &&& ~~~2046#32 == 0 && (s.wr &&& ~~~1534#32 == 0 && (decide (0 <= s.pg) && decide (s.pg < 16)))))
def nm (s : Sys) : List UInt8 := s.name.data.toList
def zop (l : List Sys) : Bool := decide (l.length <= 16) && ((l.all okY) && decide (l.map nm).Nodup)

theorem zss {l:List Sys} {k:Nat} (hk:k < l.length) (h:nm l[k] ∈ (l.take k).map nm):zop l=false:=by
 have hn:¬ (l.map nm).Nodup:=by
  intro hn
  have e:l.map nm=(l.take k).map nm++nm l[k] :: (l.drop (k+1)).map nm:=by
   rw [<- List.map_cons,<- List.map_append,List.getElem_cons_drop,List.take_append_drop]
  rw [e,List.nodup_append] at hn;exact hn.2.2 _ h _ (List.mem_cons_self ..) rfl
 simp [zop,hn]
theorem zst {l:List Sys} {k:Nat} (hk:k < l.length) (h:okY l[k]=false):zop l=false:=by
 have hn:l.all okY=false:=by
  rw [List.all_eq_false];exact ⟨l[k],List.getElem_mem hk,by simp [h]⟩
 simp [zop,hn]
theorem zsu {l:List Sys} {k:Nat} (hk:k < l.length) (hg:(l.take k).all okY=true/\((l.take k).map nm).Nodup) (h1:okY l[k]=true) (h2:nm l[k] ∉ (l.take k).map nm) :
  (l.take (k+1)).all okY=true/\((l.take (k+1)).map nm).Nodup:=by
 rw [List.take_succ_eq_append_getElem hk];refine ⟨by rw [List.all_append,hg.1];simp [h1],?_⟩;rw [List.map_append,List.nodup_append];exact ⟨hg.2,by simp,by intro a ha b hb e;simp at hb;subst hb;subst e;exact h2 ha⟩

theorem zqY {wr w2:World} {T:TypeId} {c0 c1 c2 c3:Value} {row:Nat} (hg:(wr.alloc (.cells #[c0,c1,c2,c3] T)).grownBy w2 (some row)) (hne:row < wr.heap.size) :
  w2.cell? ⟨wr.heap.size,0,none⟩=some c0/\w2.cell? ⟨wr.heap.size,1,none⟩=some c1/\w2.cell? ⟨wr.heap.size,2,none⟩=some c2/\w2.cell? ⟨wr.heap.size,3,none⟩=some c3:=by
 have h:∀ j v,(#[c0,c1,c2,c3]:Array Value)[j]? = some v->w2.cell? ⟨wr.heap.size,j,none⟩=some v:=fun j v hv =>
  hg.cell (by rw [World.cell?_alloc_new];exact hv) (by simp;omega)
 exact ⟨h 0 _ rfl,h 1 _ rfl,h 2 _ rfl,h 3 _ rfl⟩

theorem zsv (l:List Sys) (v:Value) (w:World) (hS:Syss w l v) (hok:∀ s ∈ l,s.ok) :
  Calls Tryz.prog 64 #[v] w fun e w'=>e=.returned (.bool (zop l))/\Below w.heap.size w w':=by
 obtain ⟨a,cap,rfl,hlc,hcm⟩:=hS.form;by_cases hl:l.length<=16
 case neg =>
  go_enter Tryz.func64,Tryz.ntmps64
  go_wp2;go_ret;exact ⟨by simp [zop,hl],yR _ _⟩
 have Hok:=zh hok;clear hok;have hmm:=@run_makeMap Tryz.prog;go_enter Tryz.func64,Tryz.ntmps64
 go_wp2;clear hmm;go_loopw [2,5,12,13,14,15,16,17,18,19,20,21,22,23,24,25,26,27,28,29,30,31,32,33,34,35,36,37,38,39,40,41,42,43,44,45,46,47,48,49,50,51,52,53,54,55,56,57,58,59,60] (fun _ _ t12 _ _ _ _ _ _ _ _ _ _ _ _ _ _ _ _ _ _ _ _ _ _ _ _ _ _ _ _ _ _ _ _ _ _ _ _ _ _ _ _ _ _ _ _ _ _ _ _ wr=>∃ k:Nat,k<=l.length/\t12=.int .i64 k/\((l.take k).all okY=true/\((l.take k).map nm).Nodup)/\SMap wr w.heap.size k (fun x=>if x ∈ (l.take k).map nm then 1 else 0)/\Below w.heap.size w wr) (fun _ _ t12 _ _ _ _ _ _ _ _ _ _ _ _ _ _ _ _ _ _ _ _ _ _ _ _ _ _ _ _ _ _ _ _ _ _ _ _ _ _ _ _ _ _ _ _ _ _ _ _ _=>l.length - (intOf t12).toNat)
 case atStart=>exact ⟨0,by omega,rfl,by simp,(SMap.made w).congr (by omega) (by simp),(yR _ _).alloc (zr _) _⟩
 case round =>
  obtain ⟨k,hk,rfl,hgood,hM,hb⟩:=hrel;by_cases hlt:k < l.length
  ·obtain ⟨b,off,rfl,hbw,hc⟩:=hS.at hlt;obtain ⟨c0,c1,c2,c3⟩:=hc k hlt;rw [<- hb.cell (by simpa using hbw)] at c0 c1 c2 c3;have hbr:b < wr.heap.size:=Nat.lt_of_lt_of_le hbw hb.size;have hkey:=(Hok.out l[k] (List.getElem_mem hlt)).1;clear hc;have Hgood:=zh hgood;clear hgood;by_cases hin:nm l[k] ∈ (l.take k).map nm
   ·have e1:(if l[k].name.data.toList ∈ (l.take k).map nm then (1:Int) else 0)=1:=yP hin;have H1:=zh e1;have hin':=zh hin;clear e1 hin;go_wp2_with (first | (at_lookup;refine zod rfl _ _ rfl hM2 rfl _ rfl hkey ?_;intro hwf;rw [yP rfl]) | (at_lookup;refine zod rfl _ _ rfl (hM.alloc _) rfl _ rfl hkey ?_;intro hwf;rw [H1.out]) | (at_mapUpdate;refine zoX rfl _ _ _ rfl (hM.alloc _) rfl _ 2 rfl rfl hkey (by decide) (by unfold maxLen;omega) ?_;intro w2 hM2 hg2;obtain ⟨n0,n1,n2,n3⟩:=zqY hg2 hM.lt))
    go_ret;exact ⟨retb (zss hlt hin'.out).symm,(hb.alloc hb.size _).grown hg2 (by simpa using Nat.le_succ_of_le hb.size) (by simp)⟩
   ·have e1:(if l[k].name.data.toList ∈ (l.take k).map nm then (1:Int) else 0)=0:=yN hin;have H1:=zh e1;have hin':=zh hin;clear e1 hin;have a1:=zoA l[k].rd 2046#32;have a2:=zoA l[k].wr 1534#32;have a3:=zrV (l[k].rd &&& ~~~2046#32);have a4:=zrV (l[k].wr &&& ~~~1534#32);have b1:w32 2046#32=2046:=rfl;have b2:w32 1534#32=1534:=rfl;rw [b1] at a1;rw [b2] at a2;clear b1 b2;have Hs:=zh hS;clear hS;go_wp2_with (first | (at_lookup;refine zod rfl _ _ rfl hM2 rfl _ rfl hkey ?_;intro hwf;rw [yP rfl]) | (at_lookup;refine zod rfl _ _ rfl (hM.alloc _) rfl _ rfl hkey ?_;intro hwf;rw [H1.out]) | (at_mapUpdate;refine zoX rfl _ _ _ rfl (hM.alloc _) rfl _ 1 rfl rfl hkey (by decide) (by unfold maxLen;omega) ?_;intro w2 hM2 hg2;obtain ⟨n0,n1,n2,n3⟩:=zqY hg2 hM.lt))
    all_goals clear a1 a2 a3 a4
    case roundEnd =>
     have hT:okY l[k]=true:=by
      have q3:w32 (l[k].rd &&& 4294965249#32)=0:=by assumption
      have q4:w32 (l[k].wr &&& 4294965761#32)=0:=by assumption
      have q5:((1<=(l[k].name.size:Int)/\(l[k].name.size:Int)<=24)/\0<=l[k].pg)/\l[k].pg < 16:=by assumption
      have r3:l[k].rd &&& ~~~2046#32=0:=(zoD _).1 q3;have r4:l[k].wr &&& ~~~1534#32=0:=(zoD _).1 q4;simp only [okY,r3,r4,yC,yQ,beq_self_eq_true,true_and];omega
     go_roundw
     case rel =>
      refine ⟨k+1,by omega,by go_num,zsu hlt Hgood.out hT hin'.out,hM2.congr (zr _) (fun x=>?_),(hb.alloc hb.size _).grown hg2 (by simpa using Nat.le_succ_of_le hb.size) (by simp)⟩
      have hx:x ∈ (l.take (k+1)).map nm ↔ (x ∈ (l.take k).map nm∨x=l[k].name.data.toList):=by
       rw [List.take_succ_eq_append_getElem hlt,List.map_append,List.map_cons,List.map_nil,List.mem_append,List.mem_singleton];rfl
      by_cases e:x=l[k].name.data.toList
      ·rw [yP e,yP (hx.2 (.inr e))]
      ·rw [yN e];by_cases e2:x ∈ (l.take k).map nm
       ·rw [yP e2,yP (hx.2 (.inl e2))]
       ·rw [yN e2,yN (fun h=>(hx.1 h).elim e2 e)]
     case measure=>simp [intOf];omega
    all_goals
     have hF:okY l[k]=false:=by
      rw [<- Bool.not_eq_true];intro hc;simp only [okY,yC,yQ,beq_iff_eq] at hc;obtain ⟨q1,q2,q3,q4,q5,q6⟩:=hc;have r3:w32 (l[k].rd &&& 4294965249#32)=0:=(zoD _).2 q3;have r4:w32 (l[k].wr &&& 4294965761#32)=0:=(zoD _).2 q4;first | contradiction | omega
     go_ret;exact ⟨retb (zst hlt hF).symm,(hb.alloc hb.size _).grown hg2 (by simpa using Nat.le_succ_of_le hb.size) (by simp)⟩
  ·have e:k=l.length:=by omega
   subst e;rw [List.take_length] at hgood;go_wp2;go_ret;exact ⟨by simp [zop,hl,hgood.2,hgood.1],hb⟩

def updX (X : Nat -> Value) (i : Nat) (v : Value) : Nat -> Value := fun j => if j = i then v else X j
def zo2 (T : List (Option Value)) (phi : Nat -> (Nat -> Value) -> World -> Prop) (i : Nat) (X : Nat -> Value) (v : Value) (w : World) : Prop :=
  match T[i]? with
  | some (some u) => v = u
  | _ => phi i (updX X i v) w
def zqc (A : Act) (dst : Option Tmp) (g : World -> Prop) (phi : Value -> World -> Prop) : Exit -> Act -> World -> Prop
  | .normal, a, w' => (∃ v, a = A.put dst v /\ phi v w') /\ g w'
  | _, _, _ => False
def stepsG (P : Program) (ops : Array Oper) (A : (Nat -> Value) -> Act) (T : List (Option Value)) (phi : Nat -> (Nat -> Value) -> World -> Prop) (G : Nat -> World -> World -> Prop) (H : World -> Prop) : Nat -> List Oper -> Prop
  | _, [] => True
  | i, o :: l => (∀ X w, H w -> (∀ j, zkL o j = true -> phi j X w) -> wpList P ops (zqc (A X) o.dst (G i w) (zo2 T phi i X)) [o] (A X) w) /\ stepsG P ops A T phi G H (i + 1) l
theorem stepsG.nil {P:Program} {ops:Array Oper} {A:(Nat->Value)->Act} {T:List (Option Value)} {phi:Nat->(Nat->Value)->World->Prop} {G:Nat->World->World->Prop} {H:World->Prop} {i:Nat}:stepsG P ops A T phi G H i []:=trivial
theorem stepsG.cons {P:Program} {ops:Array Oper} {A:(Nat->Value)->Act} {T:List (Option Value)} {phi:Nat->(Nat->Value)->World->Prop} {G:Nat->World->World->Prop} {H:World->Prop} {i:Nat} {o:Oper} {l:List Oper}
  (h:∀ X w,H w->(∀ j,zkL o j=true->phi j X w)->wpList P ops (zqc (A X) o.dst (G i w) (zo2 T phi i X)) [o] (A X) w) (h':stepsG P ops A T phi G H (i+1) l):stepsG P ops A T phi G H i (o :: l):=⟨h,h'⟩
theorem stepsG.get {P:Program} {ops:Array Oper} {A:(Nat->Value)->Act} {T:List (Option Value)} {phi:Nat->(Nat->Value)->World->Prop} {G:Nat->World->World->Prop} {H:World->Prop}:∀ {l:List Oper} {k:Nat},stepsG P ops A T phi G H k l->∀ i o,l[i]? = some o ->
  ∀ X w,H w->(∀ j,zkL o j=true->phi j X w)->wpList P ops (zqc (A X) o.dst (G (k+i) w) (zo2 T phi (k+i) X)) [o] (A X) w
 | [],_,_,i,o,h=>by simp at h
 | p :: l,k,hs,0,o,h=>by simp at h;subst h;exact hs.1
 | p :: l,k,hs,i+1,o,h=>by
  have:=stepsG.get hs.2 i o (by simpa using h);rw [show k+(i+1)=k+1+i from by omega];exact this

structure InvG (l : List Oper) (a0 : Act) (T : List (Option Value)) (phi : Nat -> (Nat -> Value) -> World -> Prop) (G : Nat -> World -> World -> Prop) (H : World -> Prop) (listed : Array Bool) (X : Nat -> Value) (a : Act) (w : World) : Prop where
  size : a.tmps.size = a0.tmps.size
  defers : a.defers = a0.defers
  done : ∀ t, zen l.toArray listed t -> a.tmps[t]? = (fill a0 l (tmpl T 0 X)).tmps[t]?
  left : ∀ t, ¬ zen l.toArray listed t -> a.tmps[t]? = a0.tmps[t]?
  phi : ∀ j, listed.getD j false = true -> phi j X w
  world : H w
  pre : ∀ j o k, listed.getD j false = true -> l[j]? = some o -> zkL o k = true -> listed.getD k false = true

section
variable {P : Program} {l : List Oper} {a0 : Act} {T : List (Option Value)} {phi : Nat -> (Nat -> Value) -> World -> Prop} {G : Nat -> World -> World -> Prop} {H : World -> Prop} {Q : Exit -> Act -> World -> Prop}

theorem ztJ (hdep:zbJ l.toArray=true) (hahead:zba l.toArray=true) (hsel:Region.noSelect l.toArray=true) (honce:zcg l=true) (hlen:T.length=l.length)
  (hH:∀ i w w',H w->G i w w'->H w') (hst:∀ i j X w w',i≠j->phi j X w->H w->G i w w'->phi j X w') (hloc:∀ i j X v w,i≠j->(∀ o,l[j]? = some o->zkL o i=false)->phi j X w->phi j (updX X i v) w) (hconst:∀ j X w,(T[j]?).join.isSome=true->phi j X w)
  (hs:stepsG P l.toArray (fun X=>fill a0 l (tmpl T 0 X)) T phi G H 0 l) (hfin:∀ X w,H w->(∀ j,j < l.length->phi j X w)->Q .normal (fill a0 l (tmpl T 0 X)) w) :
  ∀ (fuel:Nat) (listed:Array Bool) (X:Nat->Value) (a:Act) (w:World),listed.size=l.toArray.size->(listed.toList.count false<=fuel)->InvG l a0 T phi G H listed X a w->wpAny P .any l.toArray Q fuel listed a w:=by
 have fin:∀ (listed:Array Bool) (X:Nat->Value) (a:Act) (w:World),listed.size=l.toArray.size->InvG l a0 T phi G H listed X a w->Region.ready .any l.toArray listed=[]->Q .normal a w:=by
  intro listed X a w hls J hr;have hall:=zcU hahead listed hls hr
  have:a=fill a0 l (tmpl T 0 X):=by
   have ht:a.tmps=(fill a0 l (tmpl T 0 X)).tmps:=by
    apply Array.ext_getElem?;intro t;by_cases hw:∃ (j:Nat) (p:Oper),l.toArray[j]? = some p/\p.dst=some t
    ·obtain ⟨j,p,hp,hd⟩:=hw;exact J.done t ⟨j,p,hp,hd,hall j (Array.getElem?_eq_some_iff.1 hp).1⟩
    ·rw [J.left t fun ⟨j,p,hp,hd,_⟩=>hw ⟨j,p,hp,hd⟩];exact (zb8 l a0 _ t fun o ho hd=>by obtain ⟨j,hj,e⟩:=List.getElem_of_mem ho;exact hw ⟨j,o,by simp [hj,e],hd⟩).symm
   have hd:a.defers=(fill a0 l (tmpl T 0 X)).defers:=by rw [zdl];exact J.defers
   cases a;cases h:fill a0 l (tmpl T 0 X);rw [h] at ht hd;simp_all
  rw [this];exact hfin X w J.world fun j hj=>J.phi j (hall j (by simpa using hj))
 intro fuel
 induction fuel with
 | zero =>
  intro listed X a w hls hc J
  have hr:Region.ready .any l.toArray listed=[]:=by
   rw [List.eq_nil_iff_forall_not_mem];intro i hi;obtain ⟨hf,_⟩:=mem_ready.1 hi
   have hlt:i < listed.size:=by
    rcases Nat.lt_or_ge i listed.size with h | h
    ·exact h
    ·simp [Array.getElem?_eq_none h] at hf
   have h0:listed.toList.count false=0:=by omega
   rw [List.count_eq_zero] at h0;apply h0;have:listed[i]=false:=by simpa [hlt] using hf
   rw [<- this];simp
  exact ⟨hr,fin listed X a w hls J hr⟩
 | succ fuel ih =>
  intro listed X a w hls hc J;refine ⟨fin listed X a w hls J,fun i hi=>?_⟩;obtain ⟨hf,o,ho,hall⟩:=mem_ready.1 hi;have hil:i < l.length:=by simpa using (Array.getElem?_eq_some_iff.1 ho).1
  have hlt:i < listed.size:=by rw [hls];simpa using hil
  have ho':l[i]? = some o:=by simpa using ho
  have hcount:(listed.setIfInBounds i true).toList.count false<=fuel:=by
   have e1:listed[i]=false:=by simpa [hlt] using hf
   have e2:(listed.setIfInBounds i true).toList=listed.toList.set i true:=by simp
   rw [e2,List.count_set (by simpa using hlt)];have e3:listed.toList[i]'(by simpa using hlt)=false:=by simpa using e1
   rw [e3]
   have hpos:0 < listed.toList.count false:=by
    rw [List.count_pos_iff,<- e3];simp
   simp;simp at hc hpos;omega
  have hTi:T[i]? = some T[i]:=yD (by omega)
  have next:∀ v w',zo2 T phi i X v w'->G i w w'->wpAny P .any l.toArray Q fuel (listed.setIfInBounds i true) (a.put o.dst v) w':=by
   intro v w' hsd hb;have hX:∀ j,j≠i->updX X i v j=X j:=fun j hj=>yN hj
   have hval:T[i].getD v=v:=by
    unfold zo2 at hsd;rw [hTi] at hsd
    cases hti:T[i] with
    | none=>rfl
    | some u=>rw [hti] at hsd;exact hsd.symm
   refine ih _ (updX X i v) _ _ (by simpa using hls) hcount ⟨by rw [za8];exact J.size,by rw [zbq];exact J.defers,fun t ht=>?_,fun t ht=>?_,fun j hj=>?_,hH i w w' J.world hb,fun j p k hj hp hk=>?_⟩
   ·by_cases hd:o.dst=some t
    ·rw [hd];rcases Nat.lt_or_ge t a.tmps.size with hlt' | hge
     ·rw [zbM hlt'];refine (zpN l a0 _ i o t v honce ho' hd ?_ (by rw [<- J.size];exact hlt')).symm;rw [zo9,hTi,Nat.zero_add];simp only [show updX X i v i=v from yP rfl,Option.map_some,hval]
     ·rw [Array.getElem?_eq_none (by rw [za8];exact hge),Array.getElem?_eq_none (by rw [zbS,<- J.size];exact hge)]
    ·rw [zcn hd];rw [zsg honce hX (fun p hp=>by rw [ho'] at hp;cases hp;exact hd) hlen];refine J.done t ?_;obtain ⟨j,p,hp,hpd,hl⟩:=ht;refine ⟨j,p,hp,hpd,?_⟩;by_cases e:i=j
     ·subst e;rw [ho] at hp;cases hp;exact absurd hpd hd
     ·rwa [getD_set_ne false e] at hl
   ·have hd:o.dst≠some t:=fun hd=>ht ⟨i,o,ho,hd,by simp [hlt]⟩
    rw [zcn hd];exact J.left t fun ⟨j,p,hp,hpd,hl⟩=>ht ⟨j,p,hp,hpd,getD_set_true hl⟩
   ·by_cases e:j=i
    ·subst e;unfold zo2 at hsd;rw [hTi] at hsd
     cases hti:T[j] with
     | none=>rw [hti] at hsd;exact hsd
     | some u=>exact hconst j _ w' (by rw [hTi,hti];rfl)
    ·rw [getD_set_ne false (Ne.symm e)] at hj;refine hloc i j X v w' (Ne.symm e) (fun p hp=>?_) (hst i j _ _ _ (Ne.symm e) (J.phi j hj) J.world hb)
     cases hw:zkL p i with
     | false=>rfl
     | true =>
      have hli:=J.pre j p i hj hp hw;have e1:listed[i]=false:=by simpa [hlt] using hf
      simp [Array.getD,hlt,e1] at hli
   ·by_cases ek:k=i
    ·subst ek;simp [hlt]
    ·rw [getD_set_ne false (Ne.symm ek)];by_cases e:j=i
     ·subst e;rw [ho'] at hp;cases hp;obtain ⟨e,he,hb2⟩:=Array.any_eq_true'.1 hk;simp only [yC,beq_iff_eq] at hb2;rw [<- hb2.1];exact hall e he hb2.2
     ·rw [getD_set_ne false (Ne.symm e)] at hj;exact J.pre j p k hj hp hk
  have hpre:∀ j,zkL o j=true->phi j X w:=fun j hj=>by
   obtain ⟨e,he,hb⟩:=Array.any_eq_true'.1 hj;simp only [yC,beq_iff_eq] at hb;refine J.phi j ?_;rw [<- hb.1];exact hall e he hb.2
  have h:=hs.get i o ho' X w J.world hpre;rw [Nat.zero_add] at h;generalize hA:fill a0 l (tmpl T 0 X)=A at h
  have hev:∀ t ∈ o.looksAt l.toArray,a.tmps[t]? = A.tmps[t]?:=fun t ht=>by
   by_cases hw:∃ (j:Nat) (p:Oper),l.toArray[j]? = some p/\p.dst=some t
   ·obtain ⟨j,p,hp,hd⟩:=hw;obtain ⟨e,he,hb,hej⟩:=zcA hdep ho ht hp hd;rw [<- hA];exact J.done t ⟨j,p,hp,hd,by rw [<- hej];exact hall e he hb⟩
   ·rw [J.left t fun ⟨j,p,hp,hd,_⟩=>hw ⟨j,p,hp,hd⟩,<- hA];exact (zb8 l a0 _ t fun o ho hd=>by obtain ⟨j,hj,e⟩:=List.getElem_of_mem ho;exact hw ⟨j,o,by simp [hj,e],hd⟩).symm
  have hexec:execOp a.eval o=execOp A.eval o:=execOp_congr o (fun cs b=>Region.noSelect_spec hsel i o cs b ho) fun x hx=>by
   cases x with
   | tmp t =>
    have:=hev t (List.mem_append_left _ (List.mem_filterMap.2 ⟨.tmp t,by simpa using hx,rfl⟩))
    simp [Act.eval,this]
   | _=>rfl
  have hwant:Region.wanted o (yielded l.toArray a.tmps)=Region.wanted o (yielded l.toArray A.tmps):=by
   unfold Region.wanted
   cases hg:o.guard with
   | none=>rfl
   | some gw =>
    obtain ⟨g,want⟩:=gw
    have:yielded l.toArray a.tmps g=yielded l.toArray A.tmps g:=by
     unfold yielded
     cases ht:(l.toArray[g]?).bind (·.dst) with
     | none=>rfl
     | some t =>
      have:=hev t (List.mem_append_right _ (by simp only [hg,ht];simp));simp [this]
    simp only [this]
  have hsz:∀ d v u,A.put (some d) v=A.put (some d) u->d < A.tmps.size->v=u:=fun d v u e hd=>by
   have:=congrArg (fun a:Act=>a.tmps[d]?) e;simpa [zbM hd] using this
  have conv:∀ v w',zqc A o.dst (G i w) (zo2 T phi i X) .normal (A.put o.dst v) w'->∃ u,a.put o.dst v=a.put o.dst u/\zo2 T phi i X u w'/\G i w w':=by
   rintro v w' ⟨⟨u,e,hsd⟩,hb⟩
   cases hd:o.dst with
   | none=>exact ⟨u,rfl,hsd,hb⟩
   | some d =>
    rw [hd] at e;rcases Nat.lt_or_ge d A.tmps.size with hlt' | hge
    ·obtain rfl:=hsz d v u e hlt';exact ⟨v,rfl,hsd,hb⟩
    ·refine ⟨u,?_,hsd,hb⟩;have hge':a.tmps.size<=d:=by rw [J.size,<- zbS l a0 (tmpl T 0 X),hA];exact hge
     simp [Act.put,Array.setIfInBounds,Nat.not_lt.2 hge']
  have next':∀ v w',zqc A o.dst (G i w) (zo2 T phi i X) .normal (A.put o.dst v) w'->wpAny P .any l.toArray Q fuel (listed.setIfInBounds i true) (a.put o.dst v) w':=fun v w' hk=>by
   obtain ⟨u,e,hsd,hb⟩:=conv v w' hk;rw [e];exact next u w' hsd hb
  unfold wpOp;simp only [ho];rw [hwant];simp only [wpList] at h;split
  ·rename_i hw
   rw [yP hw] at h;refine .inl ?_;rcases h with h | ⟨_,a₀,w₀,hq⟩
   case inr=>exact hq.elim
   unfold Oper.wp at *
   rw [hexec]
   generalize (execOp A.eval o).run P w=r at *
   cases r with
   | ok n w' =>
    cases n <;> simp only [Oper.upon] at h ⊢
    case value v=>exact next' v w' h
    case skip=>exact next' undef w' h
    case defer d =>
     exfalso;obtain ⟨⟨u,e,_⟩,_⟩:=h;have:=congrArg Act.defers e;rw [zbq,zbq] at this;exact absurd this (by simp)
    case enter f args =>
     refine Calls.mono h fun e w'' he=>?_
     cases e with
     | returned v=>exact next' v w'' he
     | panicked c=>exact he.elim
     | outgrown=>obtain ⟨_,_,hq⟩:=he;exact hq.elim
    case row row args=>exact Rows.mono h fun v w'' he=>next' v w'' he
   | halt x w'=>cases x <;> simp only [Oper.upon] at h <;> exact h.elim
  ·rename_i hw
   rw [yN hw] at h;exact next' undef w h

theorem zoO {id:Nat} {w:World} (T:List (Option Value)) (phi:Nat->(Nat->Value)->World->Prop) (G:Nat->World->World->Prop) (H:World->Prop) (hm:P.follows .mixedOrders=true)
  (hB:(zbJ l.toArray && (zba l.toArray && (Region.noSelect l.toArray && zcg l)))=true) (hlen:T.length=l.length) (h0:H w.drew)
  (hH:∀ i w w',H w->G i w w'->H w') (hst:∀ i j X w w',i≠j->phi j X w->H w->G i w w'->phi j X w') (hloc:∀ i j X v w,i≠j->(∀ o,l[j]? = some o->zkL o i=false)->phi j X w->phi j (updX X i v) w) (hconst:∀ j X w,(T[j]?).join.isSome=true->phi j X w)
  (hs:stepsG P l.toArray (fun X=>fill a0 l (tmpl T 0 X)) T phi G H 0 l) (hfin:∀ X w',H w'->(∀ j,j < l.length->phi j X w')->Q .normal (fill a0 l (tmpl T 0 X)) w'):(Code.region id l.toArray true).wp P Q a0 w:=by
 rw [yC,yC,yC] at hB;refine wp_region_any hm ?_;have hc:(Array.replicate l.toArray.size false).toList.count false<=l.toArray.size:=by simp
 refine ztJ (a0:=a0) (T:=T) (phi:=phi) (G:=G) (H:=H) hB.1 hB.2.1 hB.2.2.1 hB.2.2.2 hlen hH hst hloc hconst hs hfin _ _ (fun _=>undef) _ _ (by simp) hc ?_;refine ⟨rfl,rfl,fun t ht=>?_,fun t _=>rfl,fun j hj=>?_,h0,fun j p k hj _ _=>by rw [getD_replicate_false] at hj;cases hj⟩
 ·obtain ⟨j,o,_,_,hl⟩:=ht;rw [getD_replicate_false] at hl;cases hl
 ·rw [getD_replicate_false] at hj;cases hj
end
end Go.Proofs.YtdhikpkecmaplaaGreatDoor
