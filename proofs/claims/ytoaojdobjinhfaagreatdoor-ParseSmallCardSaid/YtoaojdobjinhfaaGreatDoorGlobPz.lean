/- What the library's variables that the lexer comes to hold, and that they hold it while memory grows. -/
import Derived.Test.YtoaojdobjinhfaaGreatDoorKitCPz
import Derived.Test.YtoaojdobjinhfaaGreatDoorParOkPz
import Derived.Test.YtoaojdobjinhfaaGreatDoorShelf
import Derived.Lib.LaidTab
import Derived.ChangeBears2
import Derived.Lib.ParseIntB
import Derived.Lib.ItoaNum
import Derived.Lib.ItoaMem
import Derived.Lib.AtoiErrMem
import Derived.Lib.AppendIntMem
import Derived.Shelf.Abstract
import Derived.Shelf.RegionOpen
set_option linter.unusedSimpArgs false
set_option linter.unusedVariables false
set_option maxRecDepth 100000
set_option maxHeartbeats 2000000
namespace Go.Proofs.YtoaojdobjinhfaaGreatDoor
open Go.RowKit

def spaceTab : List Int := (List.range 256).map fun i => if i = 9 ∨ i = 10 ∨ i = 11 ∨ i = 12 ∨ i = 13 ∨ i = 32 then 1 else 0
def glB : Nat := max (max 0 4) (max 5 6) + 1
structure Glob (w : World) : Prop where
  size : glB <= w.heap.size
  space : Lib.TabIs Tryz.prog w "strings.asciiSpace" .u8 spaceTab
  pow : Lib.TabIs Tryz.prog w "internal/strconv.uint64pow10" .u64 Lib.pow10Tab
  syn : ∃ tp p, w.var? Tryz.prog "strconv.ErrSyntax" = some #[.iface tp p]
  rng : ∃ tp p, w.var? Tryz.prog "strconv.ErrRange" = some #[.iface tp p]
theorem gl0 : Tryz.prog.globalNamed "strings.asciiSpace" = some 0 := by kernel_rfl
theorem gl1 : Tryz.prog.globalNamed "internal/strconv.uint64pow10" = some 4 := by kernel_rfl
theorem gl2 : Tryz.prog.globalNamed "strconv.ErrSyntax" = some 5 := by kernel_rfl
theorem gl3 : Tryz.prog.globalNamed "strconv.ErrRange" = some 6 := by kernel_rfl
theorem Glob.below{w w':World}(h:Glob w){B:Nat}(f:Below B w w')(g:glB<=B):Glob w':=by
 obtain⟨m,l,i,⟨a,b,j⟩,⟨c,d,q⟩⟩:=h;exact⟨yT m f.size,var?_below f gl0 (Nat.lt_of_lt_of_le (by decide) g) l,var?_below f gl1 (Nat.lt_of_lt_of_le (by decide) g) i,⟨a,b,var?_below f gl2 (Nat.lt_of_lt_of_le (by decide) g) j⟩,⟨c,d,var?_below f gl3 (Nat.lt_of_lt_of_le (by decide) g) q⟩⟩
theorem Glob.only{w w':World}(h:Glob w){S:Nat->Prop}(d:Only S w w')(hS:∀k,S k->glB<=k):Glob w':=h.below (d.below hS h.size) (zr _)
theorem Glob.alloc{w:World}(h:Glob w)(o:Obj):Glob (w.alloc o):=h.below ((yR _ _).alloc h.size o) (zr _)
theorem Glob.drewN{w:World}(h:Glob w)(n:Nat):Glob (w.drewN n):=h.below ⟨rfl,rfl,rfl,zr _,fun _ _=>rfl⟩ (zr _)
theorem Glob.spaceCell{w:World}(h:Glob w)(i:Nat):w.cell? ⟨0,i,none⟩=(spaceTab.map fun z=>Value.int .u8 z)[i]?:=by
 have:=Go.var?_cell gl0 h.space i;simpa using this
theorem zb1(b:UInt8):zaG b=true ↔ 48<=b.toNat/\b.toNat<=57:=by
 unfold zaG za9;simp only[yC,yQ];omega
theorem zfr:∀(l m:List UInt8) (n:Int),zaI (l++m) n=(zaI l n).bind fun k=>zaI m k:=by
 intro l
 induction l with
 | nil=>intro m n;rfl
 | cons b r ih =>
  intro m n;simp only[List.cons_append,zaI];split
  ·rfl
  ·split
   ·rfl
   ·exact ih m _
theorem zma:∀(l:List UInt8) (a:Nat) (n:Int),zaI l (a:Int)=some n->(a:Int)<=n/\(l≠[]->n<=9223372036854775807)/\(a<=9223372036854775807->Lib.parseUintM (2 ^ 64-1) a l=.ok n.toNat):=by
 intro l
 induction l with
 | nil =>
  intro a n h;simp only[zaI,Option.some.injEq] at h;subst h
  exact⟨Int.le_refl _,fun h=>absurd rfl h,fun _=>by simp[Lib.parseUintM]⟩
 | cons b r ih =>
  intro a n h;simp only[zaI] at h;split at h
  ·cases h
  ·rename_i hd
   have d:=(zb1 b).1 (by simpa using hd);split at h
   ·cases h
   ·rename_i hov
    have m:10*(a:Int)+((b.toNat:Int)-48)=((a*10+(b.toNat-48):Nat):Int):=by omega
    rw[m] at h;obtain⟨q,i,j⟩:=ih _ _ h;have f:a*10+(b.toNat-48)<=9223372036854775807:=by omega
    refine⟨by omega,fun _=>?_,fun _=>?_⟩
    ·by_cases g:r=[]
     ·subst g;simp only[zaI,Option.some.injEq] at h;omega
     ·exact i g
    ·rw[Lib.parseUintM,yP d,yN (by omega),yN (by omega)];exact j f
theorem zfs{b:UInt8}{r:List UInt8}(g:zaG b=true):Lib.parseIntB 64 (b::r)=match Lib.parseUintM (2 ^ 64-1) 0 (b::r) with
  | .range=>.range
  | .ok u=>if 9223372036854775808<=u then .range else .ok (u:Int)
  | _=>Lib.parseIntB 64 []:=by
 have h:=(zb1 b).1 g;unfold Lib.parseIntB;simp only[];rw[yN (by omega),Lib.parseUintB,yN (by simp)];rcases Lib.parseUintM (2 ^ 64-1) 0 (b::r) with u|_|_
 rotate_left
 ·rfl
 ·rfl
 ·simp only[];have f:¬b.toNat=45:=by omega
  by_cases d:9223372036854775808<=u
  ·rw[yP ⟨f,by simpa using d⟩,yP d]
  ·rw[yN (fun h=>d (by simpa using h.2)),yN (fun h=>f h.1),yN f,yN d]
theorem zf7(k:Nat)(h:k<10):(UInt8.ofNat (48+k)).toNat=48+k:=by
 simp only[UInt8.toNat_ofNat'];omega
theorem u8_eq{b:UInt8}{k:Nat}(d:k<10)(h:b.toNat=48+k):UInt8.ofNat (48+k)=b:=UInt8.toNat_inj.1 ((zf7 k d).trans h.symm)
theorem zk4 (l:List UInt8):∀ (n:Int),l≠[]->(1 < l.length->(l.head?.map UInt8.toNat)≠some 48)->zaI l 0=some n->Lib.decDigits n.toNat=l/\(l.length=1∨1<=n):=by
 induction h:l.length using Nat.strongRecOn generalizing l with
 | _ k ih =>
  intro n w D f;obtain⟨m,d,rfl⟩:∃m d,l=m++[d]:=⟨l.dropLast,l.getLast w,(List.dropLast_concat_getLast w).symm⟩;rw[zfr] at f
  cases hm:zaI m 0 with
  | none=>rw[hm] at f;cases f
  | some a =>
   rw[hm] at f;simp only[Option.bind_some,zaI] at f;split at f
   ·cases f
   ·rename_i hd
    have B:=(zb1 d).1 (by simpa using hd);split at f
    ·cases f
    ·simp only[Option.some.injEq] at f;by_cases g:m=[]
     ·subst g;simp only[zaI,Option.some.injEq] at hm;subst hm;have e:n.toNat=d.toNat-48:=by omega
      refine⟨?_,.inl (by simpa using h.symm)⟩;rw[e,Lib.decDigits_one (by omega)];simp only[List.nil_append,List.cons.injEq,and_true];exact u8_eq (by omega) (by omega)
     ·have v:m.length<k:=by rw[<-h];simp
      have j:(m++[d]).head? = m.head?:=by
       cases m with
       | nil=>exact absurd rfl g
       | cons x y=>rfl
      have u:1<(m++[d]).length:=by
       have:=List.length_pos_iff.2 g;simp;omega
      have i:=D (by rw[<-h];exact u);rw[j] at i;obtain⟨C,q⟩:=ih m.length v m rfl a g (fun _=>i) hm
      have G:1<=a:=by
       rcases q with q|q
       ·obtain⟨x,rfl⟩:∃x,m=[x]:=by
         match m,q with
         | [x],_=>exact⟨x,rfl⟩
        simp only[zaI] at hm;split at hm
        ·cases hm
        ·rename_i hx
         have A:=(zb1 x).1 (by simpa using hx);have E:x.toNat≠48:=fun e=>i (by simp[e])
         split at hm
         ·cases hm
         ·simp only[Option.some.injEq] at hm;omega
       ·exact q
      refine⟨?_,.inr (by omega)⟩;have F:n.toNat/10=a.toNat:=by omega
      have z:n.toNat%10=d.toNat-48:=by omega
      rw[Lib.decDigits,dif_neg (by omega),F,z,C,u8_eq (b:=d) (by omega) (by omega)]
theorem zk5{b:UInt8}{r:List UInt8}(m:zaG b=true){n:Int}(h:zaS (b::r)=some n):Lib.parseIntB 64 (b::r)=.ok n/\Lib.itoa n=b::r/\0<=n/\n<=9223372036854775807:=by
 unfold zaS at h;split at h
 ·cases h
 ·rename_i hz
  obtain⟨j,g,i⟩:=zma (b::r) 0 n (by simpa using h);have l:0<=n:=by simpa using j
  have d:=g (by simp);have hp:=i (by decide);obtain⟨k,rfl⟩:∃k:Nat,n=k:=⟨n.toNat,by omega⟩;rw[Int.toNat_natCast] at hp;refine⟨?_,?_,l,d⟩
  ·rw[zfs m,hp];simp only[];rw[yN (by omega)]
  ·rw[Lib.itoa_nonneg];have f:=(zk4 (b::r) k (by simp) (fun hl he=>hz ⟨hl,he⟩) h).1;rw[Int.toNat_natCast] at f;exact f
theorem zdW(u:Nat)(v:u<=9223372036854775807):zaI (Lib.decDigits u) 0=some (u:Int)/\(u<10∨(Lib.decDigits u).head?.map UInt8.toNat≠some 48)/\(u<10->(Lib.decDigits u).length=1)/\Lib.decDigits u≠[]/\(∀b∈(Lib.decDigits u).head?,zaG b=true):=by
 induction u using Nat.strongRecOn with
 | _ u ih =>
  by_cases h:u<10
  ·rw[Lib.decDigits_one h];refine⟨?_,.inl h,fun _=>rfl,by simp,fun b hb=>?_⟩
   ·have e:=zf7 u h;have i:zaG (UInt8.ofNat (48+u))=true:=(zb1 _).2 (by omega);rw[zaI,i,yN (by decide),yN (by omega),zaI];congr 1
    omega
   ·simp only[List.head?_cons,Option.mem_def,Option.some.injEq] at hb;subst hb;exact(zb1 _).2 (by rw[zf7 u h];omega)
  ·obtain⟨j,g,q,m,l⟩:=ih (u/10) (by omega) (by omega);have e:(UInt8.ofNat (48+u%10)).toNat=48+u%10:=zf7 _ (by omega);have i:zaG (UInt8.ofNat (48+u%10))=true:=(zb1 _).2 (by omega);have f:Lib.decDigits u=Lib.decDigits (u/10)++[UInt8.ofNat (48+u%10)]:=by rw[Lib.decDigits,dif_neg h]
   have d:(Lib.decDigits u).head? = (Lib.decDigits (u/10)).head?:=by
    rw[f]
    cases hx:Lib.decDigits (u/10) with
    | nil=>exact absurd hx m
    | cons x y=>rfl
   refine⟨?_,.inr ?_,fun hx=>absurd hx h,by rw[f];simp,by rw[d];exact l⟩
   ·rw[f,zfr,j];simp only[Option.bind_some];rw[zaI,i,yN (by decide),yN (by omega),zaI];congr 1
    omega
   ·rw[d];rcases g with g|g
    ·rw[Lib.decDigits_one g];simp only[List.head?_cons,Option.map_some,ne_eq,Option.some.injEq];rw[zf7 _ g];omega
    ·exact g
theorem zf8(u:Nat)(j:u<=9223372036854775807):zaS (Lib.decDigits u)=some (u:Int):=by
 obtain⟨g,d,i,_⟩:=zdW u j;unfold zaS;rw[yN]
 ·exact g
 ·rintro⟨l,f⟩;rcases d with d|d
  ·have:=i d;omega
  ·exact d f
theorem zmb{b:UInt8}{r:List UInt8}(f:zaG b=true)(h:zaS (b::r)=none) :
  Lib.parseIntB 64 (b::r)=Lib.parseIntB 64 []∨Lib.parseIntB 64 (b::r)=.range∨∃v:Int,Lib.parseIntB 64 (b::r)=.ok v/\0<=v/\v<=9223372036854775807/\Lib.itoa v≠b::r:=by
 rw[zfs f];rcases Lib.parseUintM (2 ^ 64-1) 0 (b::r) with u|_|_
 rotate_left
 ·exact .inl rfl
 ·exact .inr (.inl rfl)
 ·simp only[];by_cases d:9223372036854775808<=u
  ·rw[yP d];exact .inr (.inl rfl)
  ·rw[yN d];refine .inr (.inr ⟨u,rfl,by omega,by omega,fun e=>?_⟩);rw[Lib.itoa_nonneg] at e;have:=zf8 u (by omega);rw[e,h] at this;cases this
open Go.RowKit Go.Sort

def numC : Option Int -> Ending
  | none => .returned (.tuple #[.int .i64 0, .int .i64 112])
  | some n => .returned (.tuple #[.int .i64 n, .int .i64 0])
theorem zjB(s:ByteArray)(l:List UInt8):(l==s.toList)=decide (l=s.data.toList):=by
 rw[Bool.eq_iff_iff,beq_iff_eq,ByteArray.toList_eq];simp
theorem zjU(s:ByteArray)(w:World)(l:Glob w)(I:s.size<=16384)(D:0<s.size)(C:zaG s[0]=true) :
  Calls Tryz.prog 104 #[.string s] w fun e w'=>e=numC (zaS s.data.toList)/\Below w.heap.size w w':=by
 obtain⟨b,r,f,g⟩:∃b r,s.data.toList=b::r/\zaG b=true:=by
  have e:=zdH s 0 D
  cases f:s.data.toList with
  | nil=>have:=zaq s;rw[f] at this;simp at this;omega
  | cons b r=>exact⟨b,r,rfl,by simp only[f,List.getElem_cons_zero] at e;rw[e];exact C⟩
 cases hv:zaS s.data.toList with
 | some n =>
  rw[f] at hv;obtain⟨d,E,H,y⟩:=zk5 g hv;rw[<-f] at d E;have u:=zh (Tryz.strconv_ParseInt_10_at64_ok s (by omega) n d w);have F:Hid (∀w',Glob w'->Calls Tryz.prog 140 #[.int .i64 n,.int .i64 10] w' fun e w''=>e=.returned (.string ⟨(Lib.itoa n).toArray⟩)/\∃k os,w''=grow (w'.drewN k) os):=zh (fun w' hG'=>Tryz.strconv_FormatInt_10 n (by omega) y w' hG'.pow);have ht:(Lib.itoa n==s.toList)=true:=by rw[zjB,E];simp
  have z:=zh l;clear d E hv f g C D l;go_enter Tryz.func104,Tryz.ntmps104
  go_wp2_with fail
  go_at_call 139;refine u.out.mono ?_;rintro A B⟨rfl,i⟩
  have j:Hid (Below w.heap.size w B):=zh (by
   rcases i with rfl|⟨t,rfl⟩
   ·exact yR _ _
   ·exact Lib.bytesWorld_below _ _ _)
  clear i;have m:=zh (z.out.below j.out z.out.size);go_wp2_with fail
  go_at_call 140;refine(F.out _ m.out).mono ?_;rintro A w2⟨rfl,k,os,i⟩;have q:Hid (Below w.heap.size w w2):=zh (by rw[i];exact j.out.trans (Lib.below_grow _ _ j.out.size _ _));clear i;go_wp2_with fail
  go_ret2
  exact⟨rfl,q.out⟩
 | none =>
  rw[f] at hv;rcases zmb g hv with d|d|⟨v,d,E,H,y⟩
  ·obtain⟨G,p,hp⟩:=l.syn;rw[<-f] at d;have u:=zh (Tryz.strconv_ParseInt_10_at64_syntax_var s (by omega) d G p w hp);clear d hp hv f g C D l;go_enter Tryz.func104,Tryz.ntmps104
   go_wp2_with fail
   go_at_call 139;refine u.out.mono ?_;rintro A B⟨N,rfl,_,_,g⟩;have j:=zh g;clear g;go_wp2_with fail
   go_ret2;exact⟨rfl,j.out⟩
  ·obtain⟨G,p,hp⟩:=l.rng;rw[<-f] at d;have u:=zh (Tryz.strconv_ParseInt_10_at64_range_var s (by omega) d G p w hp);clear d hp hv f g C D l;go_enter Tryz.func104,Tryz.ntmps104
   go_wp2_with fail
   go_at_call 139;refine u.out.mono ?_;rintro A B⟨N,rfl,_,_,g⟩;have j:=zh g;clear g;go_wp2_with fail
   go_ret2;exact⟨rfl,j.out⟩
  ·rw[<-f] at d y;have u:=zh (Tryz.strconv_ParseInt_10_at64_ok s (by omega) v d w);have F:Hid (∀w',Glob w'->Calls Tryz.prog 140 #[.int .i64 v,.int .i64 10] w' fun e w''=>e=.returned (.string ⟨(Lib.itoa v).toArray⟩)/\∃k os,w''=grow (w'.drewN k) os):=zh (fun w' hG'=>Tryz.strconv_FormatInt_10 v (by omega) H w' hG'.pow);have ht:(Lib.itoa v==s.toList)=false:=by rw[zjB];simp[y]
   have z:=zh l;clear d y hv f g C D l;go_enter Tryz.func104,Tryz.ntmps104
   go_wp2_with fail
   go_at_call 139;refine u.out.mono ?_;rintro A B⟨rfl,i⟩
   have j:Hid (Below w.heap.size w B):=zh (by
    rcases i with rfl|⟨t,rfl⟩
    ·exact yR _ _
    ·exact Lib.bytesWorld_below _ _ _)
   clear i;have m:=zh (z.out.below j.out z.out.size);go_wp2_with fail
   go_at_call 140;refine(F.out _ m.out).mono ?_;rintro A w2⟨rfl,k,os,i⟩;have q:Hid (Below w.heap.size w w2):=zh (by rw[i];exact j.out.trans (Lib.below_grow _ _ j.out.size _ _));clear i;go_wp2_with fail
   go_ret2;exact⟨rfl,q.out⟩
def sigL : List UInt8 := [61, 61, 32, 33, 61, 32, 60, 61, 32, 62, 61, 32, 38, 38, 32, 124, 124, 32, 43, 32, 45, 32, 42, 32, 47, 32, 37, 32, 60, 32, 62, 32, 33, 32, 61, 32, 40, 32, 41, 32, 91, 32, 93, 32, 123, 32, 125, 32, 44, 32, 59]
def SG : List (List UInt8) := [[61, 61], [33, 61], [60, 61], [62, 61], [38, 38], [124, 124], [43], [45], [42], [47], [37], [60], [62], [33], [61], [40], [41], [91], [93], [123], [125], [44], [59]]
def sg (k : Nat) : List UInt8 := SG.getD k []
def stT : Nat -> Int
  | 0 => -1
  | i + 1 => if sigL.getD i 0 = 32 then -1 else if stT i < 0 then (i : Int) else stT i
def cntT : Nat -> Nat
  | 0 => 0
  | i + 1 => if sigL.getD i 0 = 32 then cntT i + 1 else cntT i
theorem zk6:∀i:Fin 51,sigL.getD i.val 0=32->0<=stT i.val/\(stT i.val).toNat<=i.val/\cntT i.val<22/\(sigL.drop (stT i.val).toNat).take (i.val-(stT i.val).toNat)=sg (cntT i.val):=by decide +kernel
theorem tab_last:stT 51=50/\cntT 51=22/\sigL.drop 50=sg 22:=by decide +kernel
theorem zk7:∀i:Fin 52,-1<=stT i.val/\stT i.val<i.val/\cntT i.val<=22:=by decide +kernel
theorem zk8:∀i:Fin 51,(sigL.getD i.val 0).toNat<128/\((sigL.getD i.val 0).toNat≠32->(sigL.getD i.val 0).toNat<9∨33<=(sigL.getD i.val 0).toNat):=by decide +kernel

def hitB (k : Nat) (rem : List UInt8) : Bool := (sg k).isPrefixOf rem
theorem sg_two:∀k:Fin 6,∃p∈zbB,sg k.val=[UInt8.ofNat p.1,UInt8.ofNat p.2]/\p.1<256/\p.2<256:=by decide +kernel
theorem two_sg:∀p∈zbB,∃k:Fin 6,sg k.val=[UInt8.ofNat p.1,UInt8.ofNat p.2]:=by decide +kernel
theorem sg_one:∀k:Fin 17,∃x∈zbt,sg (6+k.val)=[UInt8.ofNat x]/\x<256:=by decide +kernel
theorem one_sg:∀x∈zbt,∃k:Fin 17,sg (6+k.val)=[UInt8.ofNat x]:=by decide +kernel
theorem zeR{n:Nat}(h:n<256):(UInt8.ofNat n).toNat=n:=by simp only[UInt8.toNat_ofNat'];omega
theorem zh3(a:UInt8):UInt8.ofNat a.toNat=a:=UInt8.toNat_inj.1 (zeR (by have:=a.toNat_lt;omega))
theorem zft{p l:List UInt8}(h:p.isPrefixOf l=true):l.take p.length=p/\p.length<=l.length:=by
 obtain⟨t,rfl⟩:=List.isPrefixOf_iff_prefix.1 h;exact⟨List.take_left,by simp⟩
theorem zm2{k:Nat}(f:k<6){d:List UInt8}(h:hitB k d=true):zag d=(sg k).length/\(sg k).length=2:=by
 obtain⟨p,hp,e,i,g⟩:=sg_two ⟨k,f⟩;obtain⟨t,rfl⟩:=List.isPrefixOf_iff_prefix.1 h;rw[show sg k=_ from e];refine⟨?_,rfl⟩;show zag (UInt8.ofNat p.1::UInt8.ofNat p.2::t)=2;rw[zag,zeR i,zeR g,yP hp]
theorem zf9{a b:UInt8}{r:List UInt8}(h:(a.toNat,b.toNat)∈zbB):∃k,k<6/\hitB k (a::b::r)=true:=by
 obtain⟨k,d⟩:=two_sg _ h;refine⟨k.val,k.isLt,?_⟩;unfold hitB;rw[d,zh3,zh3];simp[List.isPrefixOf]
theorem zm3{k:Nat}(w:6<=k)(u:k<23){d:List UInt8}(h:hitB k d=true)(f:∀j,j<k->hitB j d=false):zag d=(sg k).length/\(sg k).length=1:=by
 obtain⟨x,l,e,i⟩:=sg_one ⟨k-6,by omega⟩;have v:sg k=[UInt8.ofNat x]:=by rw[<-e];congr 1;show k=6+(k-6);omega
 unfold hitB at h;rw[v] at h ⊢;obtain⟨t,rfl⟩:=List.isPrefixOf_iff_prefix.1 h;refine⟨?_,rfl⟩
 cases t with
 | nil =>
  show zag [UInt8.ofNat x]=1
  rw[zag,zeR i,yP l]
 | cons b r =>
  show zag (UInt8.ofNat x::b::r)=1
  have m:¬((UInt8.ofNat x).toNat,b.toNat)∈zbB:=by
   intro g;obtain⟨j,y,q⟩:=zf9 (r:=r) g;have:=f j (by omega);rw[show [UInt8.ofNat x]++b::r=UInt8.ofNat x::b::r from rfl] at this;rw[q] at this;cases this
  rw[zag,yN m,zeR i,yP l]
theorem zk9{k:Nat}(i:k<23){d:List UInt8}(h:hitB k d=true)(g:∀j,j<k->hitB j d=false):zag d=(sg k).length/\zag d≠0/\d.take (zag d)=sg k/\(sg k).length<=2/\1<=(sg k).length:=by
 have ht:=zft h;rcases Nat.lt_or_ge k 6 with f|f
 ·have:=zm2 f h;exact⟨this.1,by omega,by rw[this.1];exact ht.1,by omega,by omega⟩
 ·have:=zm3 f i h g;exact⟨this.1,by omega,by rw[this.1];exact ht.1,by omega,by omega⟩
theorem zmc{d:List UInt8}(h:∀j,j<23->hitB j d=false):zag d=0:=by
 have g:∀(a:UInt8) (r:List UInt8),d=a::r->¬a.toNat∈zbt:=by
  intro a r e f;obtain⟨k,l⟩:=one_sg _ f;have:=h (6+k.val) (by omega);unfold hitB at this;rw[l,zh3,e] at this;simp[List.isPrefixOf] at this
 match d,h,g with
 | [],_,_=>rfl
 | [a],_,g=>rw[zag,yN (g a [] rfl)]
 | a::b::r,h,g =>
  rw[zag,yN,yN (g a (b::r) rfl)];intro f;obtain⟨j,m,i⟩:=zf9 (r:=r) f;rw[h j (by omega)] at i;cases i

inductive HeadR where
  | eof
  | err (code : Int)
  | tok (kind : Int) (text : List UInt8) (n : Int)
def zcG : List UInt8 -> HeadR
  | [] => .eof
  | b :: r =>
    if zaH b = true then if 24 < ((b :: r).takeWhile zaf).length then .err 111 else .tok 1 ((b :: r).takeWhile zaf) 0
    else if zaG b = true then
      match zaS ((b :: r).takeWhile zaf) with
      | none => .err 112
      | some n => .tok 2 ((b :: r).takeWhile zaf) n
    else if zag (b :: r) = 0 then .err 110 else .tok 3 ((b :: r).take (zag (b :: r))) 0
theorem zeS(d:List UInt8)(l c:Int):lexT d l c=match zcG d with
  | .eof=>.ok [⟨4,[],0,l,c⟩]
  | .err code=>.err l c code
  | .tok k t n=>(lexF (d.drop t.length) l (c+t.length)).cons ⟨k,t,n,l,c⟩:=by
 cases d with
 | nil=>rfl
 | cons b r =>
  show zaK lexF (b::r) l c=_;rw[zaK,zcG];split
  ·split <;> rfl
  ·split
   ·split <;> simp[*]
   ·split
    ·rfl
    ·have f:=zgI (b::r);have:((b::r).take (zag (b::r))).length=zag (b::r):=by rw[List.length_take];omega
     simp only[this]
open Go.RowKit Go.Shelf
attribute [local go_sem] Oper.semAt_some

def sigS : ByteArray := bstr sigL
theorem zla:sigS.size=51:=by rw[<-zaq];rfl
theorem zmd(i:Nat)(h:i<sigS.size):sigS[i]=sigL.getD i 0:=by
 rw[<-zdH sigS i h];have d:sigS.data.toList=sigL:=by unfold sigS bstr;simp
 rw[List.getD_eq_getElem?_getD,yD (by rw[<-d,zaq];exact h)];simp only[d,Option.getD_some]
theorem zme(a b:Nat):sigS.extract a b=bstr ((sigL.drop a).take (b-a)):=by
 rw[zbk];have d:sigS.data.toList=sigL:=by unfold sigS bstr;simp
 rw[d]
theorem zh4(n:Nat)(s:ByteArray)(w:World) :
  CallsIn Fence.wide n Tryz.prog 105 #[.string s] w fun e w'=>e=.returned (.func (.func 141) #[] #[.pointer (some ⟨w.heap.size,0,none⟩)])/\w'=w.alloc (.cells #[.string s] 9):=by
 refine callsIn_of_wp Tryz.func105 rfl trivial ?_ rfl;simp only[Tryz.ntmps105,List.size_toArray,yB,yL,Nat.reduceAdd,Nat.reduceSub,Array.replicate_succ,Array.replicate_zero,List.push_toArray,List.append_toArray,List.nil_append,List.cons_append];gi_wp2
 go_ret;exact⟨rfl,rfl⟩
theorem zdX{k:Nat}(h:k<23):(List.finRange 23).take k++[⟨k,h⟩]=(List.finRange 23).take (k+1):=by
 rw[List.take_succ_eq_append_getElem (by simpa using h)];simp
theorem zjV(n:Nat)(hn:1<=n)(l V Y:Nat)(hB:V<Y)(J Jx:List (Fin 23)->World->Prop)
  (hY:∀pre x W,J pre W->pre.length<23->YieldAt Fence.wide (n-1) Tryz.prog l #[.string (bstr (sg x.val))] W fun e W' =>
   (e=.returned (.bool true)/\J (pre++[x]) W'/\Below Y W W')∨(e=.returned (.bool false)/\Jx (pre++[x]) W'))
  (W:World) (hG:Glob W) (Z:glB<=Y) (R:W.cell? ⟨V,0,none⟩=some (.string sigS)) (h0:J [] W) :
  CallsIn Fence.wide n Tryz.prog 141 #[.func (.yield l) #[] #[],.pointer (some ⟨V,0,none⟩)] W fun e W'=>(∃v,e=.returned v) /\
   ((∃ys,ys=List.finRange 23/\J ys W')∨(∃pre,pre <+: List.finRange 23/\Jx pre W')):=by
 have K:=zh zla;have P:=zh zmd;have I:=zh zme
 generalize sigS=s at *
 have ag:s.size<=51:=by rw[K.out];omega
 have ac:51<=s.size:=by rw[K.out];omega
 have HG:=zh hG;have af:=zh R;clear hG;refine callsIn_of_wp Tryz.func141 rfl trivial ?_ rfl;simp only[Tryz.ntmps141,List.size_toArray,yB,yL,Nat.reduceAdd,Nat.reduceSub,Array.replicate_succ,Array.replicate_zero,List.push_toArray,List.append_toArray,List.nil_append,List.cons_append];gi_wp2
 clear R;gi_loopw [3,4,5,6,7,8,9,10,11,12,13,14,15,16,17,18,19,20,21,22,23,24,25,26,27,28,29,30,31,32,33,34,35,36,37,38,39,40,41,42,43,44,45,46,47,48] (fun t3 t4 _ _ _ _ _ _ _ _ _ _ _ _ _ _ _ _ _ _ _ _ _ _ _ _ _ _ _ _ _ _ _ _ _ _ _ _ _ _ _ _ _ _ _ _ wr=>∃(i:Nat) (C:Int),i<=51/\t4=.int .i64 i/\t3=.int .i64 C/\Hid (C=stT i)/\J ((List.finRange 23).take (cntT i)) wr/\Below Y W wr) (fun _ t4 _ _ _ _ _ _ _ _ _ _ _ _ _ _ _ _ _ _ _ _ _ _ _ _ _ _ _ _ _ _ _ _ _ _ _ _ _ _ _ _ _ _ _ _ _=>51-(intOf t4).toNat)
 case atStart=>exact⟨0,-1,by omega,rfl,rfl,zh rfl,h0,yR _ _⟩
 case round =>
  obtain⟨i,C,hi,rfl,rfl,g,N,X⟩:=hrel;have hc:=(X.cell (p:=⟨V,0,none⟩) hB).trans af.out;have Hb:=zh X;have aa:=zh (HG.out.below X Z);have am:=zh (zk7 ⟨i,by omega⟩);clear X;by_cases Q:i<51
  ·have T:i<s.size:=by omega
   have ab:=zh (zk6 ⟨i,Q⟩);have S:=zh (zk8 ⟨i,Q⟩);have A:=zh (P.out i T);have ae:s[i].toNat<128:=by rw[A.out];exact S.out.1
   have ak:¬((s[i].toNat:Int) >= 128):=by omega
   have d:=aa.out.spaceCell s[i].toNat;by_cases w:s[i].toNat=32
   ·have H:sigL.getD i 0=32:=by rw[<-A.out];exact UInt8.toNat_inj.1 (by simpa using w)
    obtain⟨k0,k1,k2,k3⟩:=ab.out H;have D:wr.cell? ⟨0,s[i].toNat,none⟩=some (.int .u8 1):=by rw[d,w];rfl
    clear d;obtain⟨m,rfl⟩:∃m:Nat,C=m:=⟨C.toNat,by have:=g.out;simp only at k0;omega⟩;have hm:(stT i).toNat=m:=by have:=g.out;omega
    have aj:m<=i:=by rw[<-hm];exact k1
    have f:s.extract m i=bstr (sg (cntT i)):=by rw[I.out,<-k3];simp only[hm]
    have F:Hid (cntT (i+1)=cntT i+1):=zh (by rw[cntT,yP H]);have y:Hid (stT (i+1) = -1):=zh (by rw[stT,yP H]);have q:cntT i<23:=by simp only at k2;omega
    obtain⟨fn,tmps,G,body,O,hR⟩:=hY _ ⟨cntT i,q⟩ wr N (by rw[List.length_take];simp;omega);dsimp only at O;rw[<-f] at O;clear f k0 k1 k2 k3 hm H N w;gi_wp2
    refine hR.mono ?_;rintro e W3 (⟨rfl,M,L⟩|⟨rfl,B⟩)
    ·have ad:=zh L;clear L;gi_wp2
     go_roundw
     case rel=>exact⟨i+1,-1,by omega,by go_num,rfl,zh (by rw[y.out]),by rw[F.out,<-zdX q];exact M,Hb.out.trans ad.out⟩
     case measure=>simp[intOf];omega
    ·gi_wp2
     refine yE (results_none rfl _ _ _) rfl ?_;refine⟨⟨_,rfl⟩,.inr ⟨_,?_,B⟩⟩;rw[zdX q];exact List.take_prefix _ _
   ·have u:¬sigL.getD i 0=32:=by rw[<-A.out];intro e;exact w (by rw[e];rfl)
    have D:wr.cell? ⟨0,s[i].toNat,none⟩=some (.int .u8 0):=by
     have h9:=S.out.2 (by rw[<-A.out];exact w);rw[<-A.out] at h9;rw[d]
     have:∀j:Nat,j<128->(j<9∨33<=j)->(spaceTab.map fun z=>Value.int .u8 z)[j]? = some (.int .u8 0):=by
      intro j hj ai;simp only[spaceTab,List.map_map,List.getElem?_map,List.getElem?_range (show j<256 by omega),Option.map_some,Function.comp];rw[yN (by omega)]
     exact this _ ae h9
    clear d;have F:Hid (cntT (i+1)=cntT i):=zh (by rw[cntT,yN u]);by_cases E:C<0
    ·have y:Hid (stT (i+1)=i):=zh (by rw[stT,yN u,yP (by rw[<-g.out];exact E)]);clear u;gi_wp2
     go_roundw
     case rel=>exact⟨i+1,i,by omega,by go_num,rfl,zh (by rw[y.out]),by rw[F.out];exact N,Hb.out⟩
     case measure=>simp[intOf];omega
    ·have y:Hid (stT (i+1)=C):=zh (by rw[stT,yN u,yN (by rw[<-g.out];exact E),g.out]);have ah:0<=C:=by omega
     clear u;gi_wp2
     go_roundw
     case rel=>exact⟨i+1,C,by omega,by go_num,rfl,zh (by rw[y.out]),by rw[F.out];exact N,Hb.out⟩
     case measure=>simp[intOf];omega
  ·obtain rfl:i=51:=by omega
   have an:¬51<s.size:=by omega
   have E:C=50:=by rw[g.out];exact tab_last.1
   subst E;have f:s.extract 50 s.size=bstr (sg 22):=by rw[I.out,<-tab_last.2.2,K.out];rfl
   have U:J ((List.finRange 23).take 22) wr:=by have:=N;rw[tab_last.2.1] at this;exact this
   obtain⟨fn,tmps,G,body,O,hR⟩:=hY _ ⟨22,by omega⟩ wr U (by rw[List.length_take];simp);dsimp only at O;rw[<-f] at O;clear f N U;gi_wp2
   refine hR.mono ?_;rintro e W3 (⟨rfl,M,L⟩|⟨rfl,B⟩)
   all_goals
    gi_wp2
    refine bodyPost_end (results_none rfl _ _ _) rfl ?_
   ·refine⟨⟨_,rfl⟩,.inl ⟨_,?_,M⟩⟩;rw[zdX (by omega)];rfl
   ·refine⟨⟨_,rfl⟩,.inr ⟨_,?_,B⟩⟩;rw[zdX (by omega)];exact List.take_prefix _ _
theorem zh5(n:Nat)(j:1<=n)(d:Nat)(w:World)(g:Glob w)(i:w.cell? ⟨d,0,none⟩=some (.string sigS))(f:d<w.heap.size) :
  SeqStopsK Fence.wide n Tryz.prog 141 #[.pointer (some ⟨d,0,none⟩)] (fun x:Fin 23=>#[Value.string (bstr (sg x.val))]) (Below w.heap.size) (fun ys=>ys=List.finRange 23) (fun pre=>pre <+: List.finRange 23) 23 w:=
 fun l J Jx W hW _ _ hY h0=>zjV n j l d w.heap.size f J Jx hY W (g.below hW g.size) g.size ((hW.cell (p:=⟨d,0,none⟩) f).trans i) h0
abbrev BK := Int × List UInt8 × Int
def wK (s : List UInt8) : BK := (1, s, 0)
def sK (s : List UInt8) : BK := (3, s, 0)
def nK (n : Int) : BK := (2, Lib.decDigits n.toNat, n)
def zbE (p : Nat × List BK) (least : Nat) : List BK := if p.1 < least then sK [40] :: (p.2 ++ [sK [41]]) else p.2
def zdS (ps : List (Nat × List BK)) : Nat × List BK := ps.getD 0 (6, [])
def zjO (ps : List (Nat × List BK)) : Nat × List BK := ps.getD 1 (6, [])
def zcF (w : List UInt8) (o c : List UInt8) (a : List BK) : List BK := wK w :: sK o :: (a ++ [sK c])
def zdt (w : List UInt8) (a b : List BK) : List BK := wK w :: sK [40] :: (a ++ sK [44] :: (b ++ [sK [41]]))
def zhI (op n : Int) (name : List UInt8) (ps : List (Nat × List BK)) : List BK :=
  if zar op < 6 then zbE (zdS ps) (zby (zar op)) ++ sK (zaO op) :: zbE (zjO ps) (zar op + 1)
  else if op = 1 then [nK n]
  else if op = 2 then [wK name]
  else if op = 3 then zcF (kindWords.getD (n - 1).toNat []) [91] [93] (zdS ps).2
  else if op = 4 then [wK [116, 105, 99, 107]]
  else if op = 5 then [wK [115, 101, 108, 102]]
  else if op = 6 then zcF [114, 97, 110, 100] [40] [41] (zdS ps).2
  else if op = 7 then sK [45] :: zbE (zdS ps) 6
  else if op = 8 then sK [33] :: zbE (zdS ps) 6
  else if op = 9 then zcF [97, 98, 115] [40] [41] (zdS ps).2
  else if op = 23 then zdt [109, 105, 110] (zdS ps).2 (zjO ps).2
  else zdt [109, 97, 120] (zdS ps).2 (zjO ps).2
mutual
def zae : Ex -> List BK
  | .mk op n name args => zhI op n name (zfc args)
def zfc : List Ex -> List (Nat × List BK)
  | [] => []
  | .mk op n name args :: r => (zar op, zhI op n name (zfc args)) :: zfc r
end
def opE : Ex -> Int | .mk op _ _ _ => op
def zat (x : Ex) : Nat := zar (opE x)
theorem zbQ(x:Ex)(r:List Ex):zel (x::r)=(zat x,zab x)::zel r:=by
 cases x;simp only[zel,zab,zat,opE]

inductive Shp : Nat -> Ex -> Prop
  | num {d : Nat} {n : Int} (h0 : 0 <= n) (h1 : n <= 9223372036854775807) : Shp (d + 1) (.mk 1 n [] [])
  | var {d : Nat} {name : List UInt8} (h : zaP name = true) : Shp (d + 1) (.mk 2 0 name [])
  | comp {d : Nat} {n : Int} {a : Ex} (h0 : 1 <= n) (h1 : n <= 10) (h : Shp d a) : Shp (d + 1) (.mk 3 n [] [a])
  | leaf {d : Nat} {op : Int} (h : op = 4 ∨ op = 5) : Shp (d + 1) (.mk op 0 [] [])
  | call {d : Nat} {op : Int} {a : Ex} (ho : op = 6 ∨ op = 9) (h : Shp d a) : Shp (d + 1) (.mk op 0 [] [a])
  | pre {d : Nat} {op : Int} {a : Ex} (ho : op = 7 ∨ op = 8) (h : Shp d a) : Shp (d + 1) (.mk op 0 [] [a])
  | bin {d : Nat} {op : Int} {a b : Ex} (h0 : 10 <= op) (h1 : op <= 22) (ha : Shp d a) (hb : Shp d b) : Shp (d + 1) (.mk op 0 [] [a, b])
  | two {d : Nat} {op : Int} {a b : Ex} (ho : op = 23 ∨ op = 24) (ha : Shp d a) (hb : Shp d b) : Shp (d + 1) (.mk op 0 [] [a, b])
theorem len0{α:Type}{l:List α}(h:l.length=0):l=[]:=List.eq_nil_of_length_eq_zero h
theorem len1{α:Type}{l:List α}(h:l.length=1):∃a,l=[a]:=List.length_eq_one_iff.1 h
theorem len2{α:Type}{l:List α}(h:l.length=2):∃a b,l=[a,b]:=by
 match l,h with
 | [a,b],_=>exact⟨a,b,rfl⟩
theorem zfB:∀(d:Nat) (x:Ex),zbd d x=true->okE x->Shp d x:=by
 intro d
 induction d with
 | zero=>intro x h;cases x;simp[zbd] at h
 | succ d ih =>
  intro x h v;obtain⟨op,n,name,args⟩:=x;simp only[zbd,yC] at h;obtain⟨f,A⟩:=h;rw[List.all_eq_true] at A;obtain⟨-,D,-,j⟩:=v
  have B:1<=op/\op<=24:=by
   unfold zbN at f;rw[yC,yQ] at f;exact f.1
  have g:∀a∈args,Shp d a:=by
   intro a m;refine ih a (A a m) ?_;clear A f ih
   induction args with
   | nil=>cases m
   | cons y r ihr =>
    rcases List.mem_cons.1 m with rfl|m
    ·exact j.1
    ·exact ihr j.2 m
  have l:op=1∨op=2∨op=3∨(op=4∨op=5)∨((op=6∨op=9)∨(op=7∨op=8))∨(10<=op/\op<=22)∨(op=23∨op=24):=by omega
  rcases l with rfl|rfl|rfl|h|h|⟨w,q⟩|h
  ·rw[zmW] at f;simp only[yC,yQ] at f;obtain⟨i,rfl,C⟩:=f;rw[len0 i];exact .num C D.2
  ·rw[zmX] at f;simp only[yC,yQ] at f;obtain⟨i,z,rfl⟩:=f;rw[len0 i];exact .var z
  ·rw[zmY] at f;simp only[yC,yQ] at f;obtain⟨i,rfl,w,q⟩:=f;obtain⟨a,rfl⟩:=len1 i;exact .comp w q (g a (by simp))
  ·have u:zbN op n name args.length=(decide (args.length=0)&&(decide (name=[])&&decide (n=0))):=by rcases h with rfl|rfl;exact zmZ _ _ _;exact zm0 _ _ _
   rw[u] at f;simp only[yC,yQ] at f;obtain⟨i,rfl,rfl⟩:=f;rw[len0 i];exact .leaf h
  ·rw[zm1 _ _ _ _ (by omega) (by omega)] at f;simp only[yC,yQ] at f;obtain⟨i,rfl,rfl⟩:=f;obtain⟨a,rfl⟩:=len1 i;rcases h with h|h
   ·exact .call h (g a (by simp))
   ·exact .pre h (g a (by simp))
  ·rw[zjA _ _ _ _ (by omega) (by omega)] at f;simp only[yC,yQ] at f;obtain⟨i,rfl,rfl⟩:=f;obtain⟨a,b,rfl⟩:=len2 i;exact .bin w q (g a (by simp)) (g b (by simp))
  ·rw[zjA _ _ _ _ (by omega) (by omega)] at f;simp only[yC,yQ] at f;obtain⟨i,rfl,rfl⟩:=f;obtain⟨a,b,rfl⟩:=len2 i;exact .two h (g a (by simp)) (g b (by simp))

def Seg (l : List Tok) (i : Nat) (ks : List BK) : Prop := ∃ p s, l.map Tok.bare = p ++ ks ++ s /\ p.length = i
theorem Seg.app{l:List Tok}{i:Nat}{a b:List BK}(h:Seg l i (a++b)):Seg l i a/\Seg l (i+a.length) b:=by
 obtain⟨p,s,f,d⟩:=h;exact⟨⟨p,b++s,by rw[f];simp,d⟩,⟨p++a,s,by rw[f];simp,by rw[yA,d]⟩⟩
theorem Seg.le{l:List Tok}{i:Nat}{a:List BK}(h:Seg l i a):i+a.length<=l.length:=by
 obtain⟨p,s,d,f⟩:=h;have:=congrArg List.length d;simp only[List.length_map,yA] at this;omega
theorem Seg.at{l:List Tok}{i:Nat}{k:BK}{r:List BK}(h:Seg l i (k::r)):(zaa l i).bare=k/\i<l.length:=by
 have f:=h.le;simp only[yB] at f;have d:i<l.length:=by omega
 refine⟨?_,d⟩;obtain⟨p,s,j,rfl⟩:=h
 have g:(l.map Tok.bare)[p.length]? = some k:=by
  rw[j,List.append_assoc,List.getElem?_append_right (zr _),Nat.sub_self];rfl
 rw[List.getElem?_map,yD d] at g;unfold zaa;rw[List.getD_eq_getElem?_getD,yD d];exact Option.some.inj g
theorem Seg.tail{l:List Tok}{i:Nat}{k:BK}{r:List BK}(h:Seg l i (k::r)):Seg l (i+1) r:=(Seg.app (a:=[k]) h).2
theorem zcp{t:Tok}{a:Int}{b:List UInt8}{c:Int}(h:t.bare=(a,b,c)):t.kind=a/\t.text=b/\t.n=c:=by
 unfold Tok.bare at h;exact⟨congrArg (·.1) h,congrArg (·.2.1) h,congrArg (·.2.2) h⟩
theorem zcb{l:List Tok}{i:Nat}{s:List UInt8}(h:(zaa l i).bare=sK s)(u:List UInt8):isS l i u=decide (s=u):=by
 obtain⟨f,d,-⟩:=zcp h;unfold isS;rw[f,d];simp
theorem zeN{l:List Tok}{i:Nat}{s:List UInt8}(h:(zaa l i).bare=sK s):za3 l i=zai s signWords 0/\zaj l i=strongs.getD (zai s signWords 0) 0:=by
 obtain⟨f,d,-⟩:=zcp h;have e:za3 l i=zai s signWords 0:=by unfold za3;rw[yP f,d]
 exact⟨e,by unfold zaj;rw[e]⟩
theorem zhJ{op:Int}(d:10<=op)(f:op<=22):∃k:Fin 13,op=10+(k.val:Int):=⟨⟨(op-10).toNat,by omega⟩,by show op=10+((op-10).toNat:Int);omega⟩
theorem zdE{op:Int}(d:10<=op)(f:op<=22):(9+(zai (zaO op) signWords 0:Int)=op)/\strongs.getD (zai (zaO op) signWords 0) 0=zar op/\1<=zar op/\zar op<=5:=by
 obtain⟨k,rfl⟩:=zhJ d f;revert k;decide
theorem zhK{op:Int}(h:¬(10<=op/\op<=22)):zar op=6:=by unfold zar;rw[yN h]
theorem zhL(n:Nat):n<=zby n:=by unfold zby;split <;> omega
def Follow (n s : Nat) : Prop := s = 0 ∨ zby s <= n
theorem Follow.lt{n s:Nat}(h:Follow n s):s<=n:=by
 rcases h with rfl|h
 ·omega
 ·have:=zhL s;omega
theorem Follow.mono{n m s:Nat}(h:Follow n s)(d:n<=m):Follow m s:=by
 rcases h with h|h
 ·exact .inl h
 ·exact .inr (yT h d)
theorem zeo{l:List Tok}{E:Nat->Nat->Nat->PR Ex}{f i o:Nat}(g:isS l i [45]=false)(d:isS l i [33]=false):zas l E (f+1) i o=zah l E i o:=by
 rw[zas,yP ⟨g,d⟩]
theorem zhM{l:List Tok}{i o:Nat}{s:List UInt8}(h:isS l i s=true)(d:o<200):zay l i s o=.ok () (i+1):=by
 unfold zay;rw[h,yN (by decide),yN (by omega)]
theorem zfZ{l:List Tok}{E:Nat->Nat->Nat->PR Ex}{i o j:Nat}{a b:List UInt8}{x:Ex}(h:isS l i a=true)(f:o<200)(g:E (i+1) (o+1) 1=.ok x j)(d:isS l j b=true):zad l E i o a b 1=.ok [x] (j+1):=by
 unfold zad;rw[zhM h f];simp only[PR.andThen,zav,if_true,g,d]
def Reads (l : List Tok) (E : Nat -> Nat -> Nat -> PR Ex) (o i q : Nat) (x : Ex) (j : Nat) : Prop :=
  (zas l E (l.length + 1 - i) i o).andThen (fun y k => zaD l E (l.length + 1 - k) y k o q) = zaD l E (l.length + 1 - j) x j o q
theorem Reads.of_unary{l:List Tok}{E:Nat->Nat->Nat->PR Ex}{o i q:Nat}{x:Ex}{j:Nat}(h:zas l E (l.length+1-i) i o=.ok x j):Reads l E o i q x j:=by
 unfold Reads;rw[h];rfl
theorem Reads.done{l:List Tok}{f o i q:Nat}{x:Ex}{j:Nat}(h:Reads l (zaw l f) o i q x j)(m:l.length+1-i<=f+1)(u:j<=l.length)(g:zaj l j<q∨zaj l j=0):zaw l (f+1) i o q=.ok x j:=by
 show(zas l (zaw l f) (l.length+1-i) i o).andThen (fun x j=>zaD l (zaw l f) (l.length+1-j) x j o q)=_;unfold Reads at h;rw[h];obtain⟨n,d⟩:∃n,l.length+1-j=n+1:=⟨l.length-j,by omega⟩;rw[d,zaD,yP g]
theorem zbG{s:List UInt8}(h:zaP s=true):za4 s=true/\zap s=0/\zai s keyWords 0=0:=by
 unfold zaP at h;simp only[yC,yQ] at h;exact⟨h.1.1,h.1.2,h.2⟩
theorem zjt(x:Ex)(d:Nat):zbE (zat x,zae x) d=if zat x<d then sK [40]::(zae x++[sK [41]]) else zae x:=rfl
theorem zhN(x:Ex):1<=zat x:=by
 unfold zat;by_cases h:10<=opE x/\opE x<=22
 ·have:=zdE h.1 h.2;omega
 ·rw[zhK h];omega
def zf0 (l : List Tok) (d : Nat) (x : Ex) : Prop := ∀ (i o f : Nat), Seg l i (zae x) -> o + 2 * d <= 200 -> l.length + 1 - i <= f + 1 -> zas l (zaw l f) (l.length + 1 - i) i o = .ok x (i + (zae x).length)
def Back (l : List Tok) (d : Nat) (x : Ex) : Prop :=
  (∀ (i o q f : Nat), q <= zat x -> Seg l i (zae x) -> Follow (zat x) (zaj l (i + (zae x).length)) -> o + 2 * d <= 200 -> l.length + 1 - i <= f + 1 -> Reads l (zaw l f) o i q x (i + (zae x).length)) /\ (zat x = 6 -> zf0 l d x)
theorem Back.of_unary{l:List Tok}{d:Nat}{x:Ex}(h:zf0 l d x):Back l d x:=⟨fun i o _ f _ hs _ ho hf=>Reads.of_unary (h i o f hs ho hf),fun _=>h⟩
theorem Back.expr{l:List Tok}{d:Nat}{x:Ex}(h:Back l d x){i o q f:Nat}(z:q<=zat x)(u:Seg l i (zae x))(w:Follow (zat x) (zaj l (i+(zae x).length)))(j:zaj l (i+(zae x).length)<q∨zaj l (i+(zae x).length)=0)(y:o+2*d<=200)(v:l.length+1-i<=f):zaw l f i o q=.ok x (i+(zae x).length):=by
 have m:=u.le;obtain⟨g,rfl⟩:∃g,f=g+1:=⟨f-1,by omega⟩;exact(h.1 i o q g z u w y v).done v m j
theorem Back.zero{l:List Tok}{d:Nat}{x:Ex}(h:Back l d x){i o f:Nat}(q:Seg l i (zae x))(g:zaj l (i+(zae x).length)=0)(m:o+2*d<=200)(j:l.length+1-i<=f):zaw l f i o 1=.ok x (i+(zae x).length):=
 h.expr (zhN x) q (.inl g) (.inr g) m j
theorem zfd{l:List Tok}{i:Nat}{s:List UInt8}(h:(zaa l i).bare=sK s)(d:zai s signWords 0=0):zaj l i=0:=by
 rw[(zeN h).2,d];rfl
theorem Back.inside{l:List Tok}{d:Nat}{x:Ex}(h:Back l d x){i o f:Nat}{a b:List UInt8}(j:Seg l i (sK a::(zae x++[sK b])))(y:zai b signWords 0=0)(C:o+2*d<200)(B:l.length+1-i<=f+1):zad l (zaw l f) i o a b 1=.ok [x] (i+(zae x).length+2):=by
 obtain⟨u,z⟩:=j.at;obtain⟨q,v⟩:=j.tail.app;obtain⟨m,g⟩:=v.at;have w:isS l i a=true:=by rw[zcb u];simp
 have A:isS l (i+1+(zae x).length) b=true:=by rw[zcb m];simp
 rw[zfZ w (by omega) (h.zero q (zfd m y) (by omega) (by omega)) A];congr 1
 omega
theorem zeK{l:List Tok}{E:Nat->Nat->Nat->PR Ex}{i o j:Nat}{x:Ex}(h:(zaa l i).bare=sK [40])(hi:zad l E i o [40] [41] 1=.ok [x] j):zah l E i o=.ok x j:=by
 obtain⟨d,f,-⟩:=zcp h;unfold zah;rw[d,yN (by decide),zcb h,yP (by decide),hi];rfl
theorem Back.paren{l:List Tok}{d:Nat}{x:Ex}(h:Back l d x){i o f g:Nat}(m:Seg l i (sK [40]::(zae x++[sK [41]])))(u:o+2*d<200)(q:l.length+1-i<=f+1):zas l (zaw l f) (g+1) i o=.ok x (i+(sK [40]::(zae x++[sK [41]])).length):=by
 obtain⟨j,v⟩:=m.at;rw[zeo (by rw[zcb j];decide) (by rw[zcb j];decide),zeK j (h.inside m (by decide) u q)];congr 1
 simp only[yB,yA,yL];omega
theorem Back.part{l:List Tok}{d:Nat}{x:Ex}(h:Back l d x){i o q f j:Nat}(B:q<=j)(m:Seg l i (zbE (zat x,zae x) j))(w:Follow j (zaj l (i+(zbE (zat x,zae x) j).length)))(A:o+2*d<200)(u:l.length+1-i<=f+1) :
  Reads l (zaw l f) o i q x (i+(zbE (zat x,zae x) j).length):=by
 rw[zjt] at *
 by_cases v:zat x<j
 ·rw[yP v] at *
  obtain⟨-,z⟩:=m.at;obtain⟨g,y⟩:∃g,l.length+1-i=g+1:=⟨l.length-i,by omega⟩;refine Reads.of_unary ?_;rw[y];exact h.paren m A u
 ·rw[yN v] at *
  exact h.1 i o q f (by omega) m (w.mono (by omega)) (by omega) u
end Go.Proofs.YtoaojdobjinhfaaGreatDoor
