/- What the library's variables that the lexer comes to hold, and that they hold it while memory grows. -/
import Derived.Test.YtdhikpkecmaplaaGreatDoorRParEMk
import Derived.Test.YtdhikpkecmaplaaGreatDoorShelf
import Derived.Lib.LaidTab
import Derived.ChangeBears2
import Derived.Lib.ParseIntB
import Derived.Lib.ItoaNum
import Derived.Lib.ItoaMem
import Derived.Lib.AtoiErrMem
import Derived.Lib.AppendIntMem
import Derived.Shelf.Abstract
import Derived.Shelf.RegionOpen
set_option linter.unusedSimpArgs false
set_option linter.unusedVariables false
set_option maxRecDepth 100000
set_option maxHeartbeats 2000000
namespace Go.Proofs.YtdhikpkecmaplaaGreatDoor
open Go.RowKit

def spaceTab : List Int := (List.range 256).map fun i => if i = 9 ∨ i = 10 ∨ i = 11 ∨ i = 12 ∨ i = 13 ∨ i = 32 then 1 else 0
def glB : Nat := max (max 0 4) (max 5 6) + 1
structure Glob (w : World) : Prop where
  size : glB <= w.heap.size
  space : Lib.TabIs Tryz.prog w "strings.asciiSpace" .u8 spaceTab
  pow : Lib.TabIs Tryz.prog w "internal/strconv.uint64pow10" .u64 Lib.pow10Tab
  syn : ∃ tp p, w.var? Tryz.prog "strconv.ErrSyntax" = some #[.iface tp p]
  rng : ∃ tp p, w.var? Tryz.prog "strconv.ErrRange" = some #[.iface tp p]
theorem gl0 : Tryz.prog.globalNamed "strings.asciiSpace" = some 0 := by kernel_rfl
theorem gl1 : Tryz.prog.globalNamed "internal/strconv.uint64pow10" = some 4 := by kernel_rfl
theorem gl2 : Tryz.prog.globalNamed "strconv.ErrSyntax" = some 5 := by kernel_rfl
theorem gl3 : Tryz.prog.globalNamed "strconv.ErrRange" = some 6 := by kernel_rfl
theorem Glob.below {w w':World} (h:Glob w) {B:Nat} (hb:Below B w w') (hB:glB<=B):Glob w':=by
 obtain ⟨h0,h1,h2,⟨a,b,h3⟩,⟨c,d,h4⟩⟩:=h;exact ⟨yT h0 hb.size,var?_below hb gl0 (Nat.lt_of_lt_of_le (by decide) hB) h1,var?_below hb gl1 (Nat.lt_of_lt_of_le (by decide) hB) h2,⟨a,b,var?_below hb gl2 (Nat.lt_of_lt_of_le (by decide) hB) h3⟩,⟨c,d,var?_below hb gl3 (Nat.lt_of_lt_of_le (by decide) hB) h4⟩⟩
theorem Glob.only {w w':World} (h:Glob w) {S:Nat->Prop} (ho:Only S w w') (hS:∀ k,S k->glB<=k):Glob w':=h.below (ho.below hS h.size) (zr _)
theorem Glob.alloc {w:World} (h:Glob w) (o:Obj):Glob (w.alloc o):=h.below ((yR _ _).alloc h.size o) (zr _)
theorem Glob.drewN {w:World} (h:Glob w) (n:Nat):Glob (w.drewN n):=h.below ⟨rfl,rfl,rfl,zr _,fun _ _=>rfl⟩ (zr _)
theorem Glob.spaceCell {w:World} (h:Glob w) (i:Nat):w.cell? ⟨0,i,none⟩=(spaceTab.map fun z=>Value.int .u8 z)[i]?:=by
 have:=Go.var?_cell gl0 h.space i;simpa using this
theorem zb1 (b:UInt8):zaG b=true ↔ 48<=b.toNat/\b.toNat<=57:=by
 unfold zaG za9;simp only [yC,yQ];omega
theorem zfr:∀ (l m:List UInt8) (n:Int),zaI (l++m) n=(zaI l n).bind fun k=>zaI m k:=by
 intro l
 induction l with
 | nil=>intro m n;rfl
 | cons b r ih =>
  intro m n;simp only [List.cons_append,zaI];split
  ·rfl
  ·split
   ·rfl
   ·exact ih m _
theorem zma:∀ (l:List UInt8) (a:Nat) (n:Int),zaI l (a:Int)=some n->(a:Int)<=n/\(l≠[]->n<=9223372036854775807)/\(a<=9223372036854775807->Lib.parseUintM (2 ^ 64 - 1) a l=.ok n.toNat):=by
 intro l
 induction l with
 | nil =>
  intro a n h;simp only [zaI,Option.some.injEq] at h;subst h
  exact ⟨Int.le_refl _,fun h=>absurd rfl h,fun _=>by simp [Lib.parseUintM]⟩
 | cons b r ih =>
  intro a n h;simp only [zaI] at h;split at h
  ·cases h
  ·rename_i hd
   have hd1:=(zb1 b).1 (by simpa using hd);split at h
   ·cases h
   ·rename_i hov
    have hc:10 * (a:Int)+((b.toNat:Int) - 48)=((a * 10+(b.toNat - 48):Nat):Int):=by omega
    rw [hc] at h;obtain ⟨h1,h2,h3⟩:=ih _ _ h;have hle:a * 10+(b.toNat - 48)<=9223372036854775807:=by omega
    refine ⟨by omega,fun _=>?_,fun _=>?_⟩
    ·by_cases hr:r=[]
     ·subst hr;simp only [zaI,Option.some.injEq] at h;omega
     ·exact h2 hr
    ·rw [Lib.parseUintM,yP hd1,yN (by omega),yN (by omega)];exact h3 hle
theorem zfs {b:UInt8} {r:List UInt8} (hb:zaG b=true):Lib.parseIntB 64 (b :: r)=match Lib.parseUintM (2 ^ 64 - 1) 0 (b :: r) with
  | .range=>.range
  | .ok u=>if 9223372036854775808<=u then .range else .ok (u:Int)
  | _=>Lib.parseIntB 64 []:=by
 have h:=(zb1 b).1 hb;unfold Lib.parseIntB;simp only [];rw [yN (by omega),Lib.parseUintB,yN (by simp)];rcases Lib.parseUintM (2 ^ 64 - 1) 0 (b :: r) with u | _ | _
 rotate_left
 ·rfl
 ·rfl
 ·simp only [];have hn:¬ b.toNat=45:=by omega
  by_cases hu:9223372036854775808<=u
  ·rw [yP ⟨hn,by simpa using hu⟩,yP hu]
  ·rw [yN (fun h=>hu (by simpa using h.2)),yN (fun h=>hn h.1),yN hn,yN hu]
theorem zf7 (k:Nat) (h:k < 10):(UInt8.ofNat (48+k)).toNat=48+k:=by
 simp only [UInt8.toNat_ofNat'];omega
theorem u8_eq {b:UInt8} {k:Nat} (hk:k < 10) (h:b.toNat=48+k):UInt8.ofNat (48+k)=b:=UInt8.toNat_inj.1 ((zf7 k hk).trans h.symm)
theorem zk4 (l:List UInt8):∀ (n:Int),l≠[]->(1 < l.length->(l.head?.map UInt8.toNat)≠some 48)->zaI l 0=some n->Lib.decDigits n.toNat=l/\(l.length=1∨1<=n):=by
 induction h:l.length using Nat.strongRecOn generalizing l with
 | _ k ih =>
  intro n hl hz hv;obtain ⟨m,d,rfl⟩:∃ m d,l=m++[d]:=⟨l.dropLast,l.getLast hl,(List.dropLast_concat_getLast hl).symm⟩;rw [zfr] at hv
  cases hm:zaI m 0 with
  | none=>rw [hm] at hv;cases hv
  | some a =>
   rw [hm] at hv;simp only [Option.bind_some,zaI] at hv;split at hv
   ·cases hv
   ·rename_i hd
    have hd1:=(zb1 d).1 (by simpa using hd);split at hv
    ·cases hv
    ·simp only [Option.some.injEq] at hv;by_cases hme:m=[]
     ·subst hme;simp only [zaI,Option.some.injEq] at hm;subst hm;have e:n.toNat=d.toNat - 48:=by omega
      refine ⟨?_,.inl (by simpa using h.symm)⟩;rw [e,Lib.decDigits_one (by omega)];simp only [List.nil_append,List.cons.injEq,and_true];exact u8_eq (by omega) (by omega)
     ·have hml:m.length < k:=by rw [<- h];simp
      have hhead:(m++[d]).head? = m.head?:=by
       cases m with
       | nil=>exact absurd rfl hme
       | cons x y=>rfl
      have hlen:1 < (m++[d]).length:=by
       have:=List.length_pos_iff.2 hme;simp;omega
      have hz':=hz (by rw [<- h];exact hlen);rw [hhead] at hz';obtain ⟨h1,h2⟩:=ih m.length hml m rfl a hme (fun _=>hz') hm
      have ha1:1<=a:=by
       rcases h2 with h2 | h2
       ·obtain ⟨x,rfl⟩:∃ x,m=[x]:=by
         match m,h2 with
         | [x],_=>exact ⟨x,rfl⟩
        simp only [zaI] at hm;split at hm
        ·cases hm
        ·rename_i hx
         have hx1:=(zb1 x).1 (by simpa using hx);have hx2:x.toNat≠48:=fun e=>hz' (by simp [e])
         split at hm
         ·cases hm
         ·simp only [Option.some.injEq] at hm;omega
       ·exact h2
      refine ⟨?_,.inr (by omega)⟩;have e1:n.toNat / 10=a.toNat:=by omega
      have e2:n.toNat % 10=d.toNat - 48:=by omega
      rw [Lib.decDigits,dif_neg (by omega),e1,e2,h1,u8_eq (b:=d) (by omega) (by omega)]
theorem zk5 {b:UInt8} {r:List UInt8} (hb:zaG b=true) {n:Int} (h:zaS (b :: r)=some n):Lib.parseIntB 64 (b :: r)=.ok n/\Lib.itoa n=b :: r/\0<=n/\n<=9223372036854775807:=by
 unfold zaS at h;split at h
 ·cases h
 ·rename_i hz
  obtain ⟨h1,h2,h3⟩:=zma (b :: r) 0 n (by simpa using h);have h0:0<=n:=by simpa using h1
  have hle:=h2 (by simp);have hp:=h3 (by decide);obtain ⟨k,rfl⟩:∃ k:Nat,n=k:=⟨n.toNat,by omega⟩;rw [Int.toNat_natCast] at hp;refine ⟨?_,?_,h0,hle⟩
  ·rw [zfs hb,hp];simp only [];rw [yN (by omega)]
  ·rw [Lib.itoa_nonneg];have hd:=(zk4 (b :: r) k (by simp) (fun hl he=>hz ⟨hl,he⟩) h).1;rw [Int.toNat_natCast] at hd;exact hd
theorem zdW (u:Nat) (hu:u<=9223372036854775807):zaI (Lib.decDigits u) 0=some (u:Int)/\(u < 10∨(Lib.decDigits u).head?.map UInt8.toNat≠some 48)/\(u < 10->(Lib.decDigits u).length=1)/\Lib.decDigits u≠[]/\(∀ b ∈ (Lib.decDigits u).head?,zaG b=true):=by
 induction u using Nat.strongRecOn with
 | _ u ih =>
  by_cases h:u < 10
  ·rw [Lib.decDigits_one h];refine ⟨?_,.inl h,fun _=>rfl,by simp,fun b hb=>?_⟩
   ·have e:=zf7 u h;have hd:zaG (UInt8.ofNat (48+u))=true:=(zb1 _).2 (by omega);rw [zaI,hd,yN (by decide),yN (by omega),zaI];congr 1
    omega
   ·simp only [List.head?_cons,Option.mem_def,Option.some.injEq] at hb;subst hb;exact (zb1 _).2 (by rw [zf7 u h];omega)
  ·obtain ⟨h1,h2,h3,h4,h5⟩:=ih (u / 10) (by omega) (by omega);have e:(UInt8.ofNat (48+u % 10)).toNat=48+u % 10:=zf7 _ (by omega);have hd:zaG (UInt8.ofNat (48+u % 10))=true:=(zb1 _).2 (by omega);have hdd:Lib.decDigits u=Lib.decDigits (u / 10)++[UInt8.ofNat (48+u % 10)]:=by rw [Lib.decDigits,dif_neg h]
   have hhead:(Lib.decDigits u).head? = (Lib.decDigits (u / 10)).head?:=by
    rw [hdd]
    cases hx:Lib.decDigits (u / 10) with
    | nil=>exact absurd hx h4
    | cons x y=>rfl
   refine ⟨?_,.inr ?_,fun hx=>absurd hx h,by rw [hdd];simp,by rw [hhead];exact h5⟩
   ·rw [hdd,zfr,h1];simp only [Option.bind_some];rw [zaI,hd,yN (by decide),yN (by omega),zaI];congr 1
    omega
   ·rw [hhead];rcases h2 with h2 | h2
    ·rw [Lib.decDigits_one h2];simp only [List.head?_cons,Option.map_some,ne_eq,Option.some.injEq];rw [zf7 _ h2];omega
    ·exact h2
theorem zf8 (u:Nat) (hu:u<=9223372036854775807):zaS (Lib.decDigits u)=some (u:Int):=by
 obtain ⟨h1,h2,h3,_⟩:=zdW u hu;unfold zaS;rw [yN]
 ·exact h1
 ·rintro ⟨hl,he⟩;rcases h2 with h2 | h2
  ·have:=h3 h2;omega
  ·exact h2 he
theorem zmb {b:UInt8} {r:List UInt8} (hb:zaG b=true) (h:zaS (b :: r)=none) :
  Lib.parseIntB 64 (b :: r)=Lib.parseIntB 64 []∨Lib.parseIntB 64 (b :: r)=.range∨∃ v:Int,Lib.parseIntB 64 (b :: r)=.ok v/\0<=v/\v<=9223372036854775807/\Lib.itoa v≠b :: r:=by
 rw [zfs hb];rcases Lib.parseUintM (2 ^ 64 - 1) 0 (b :: r) with u | _ | _
 rotate_left
 ·exact .inl rfl
 ·exact .inr (.inl rfl)
 ·simp only [];by_cases hu:9223372036854775808<=u
  ·rw [yP hu];exact .inr (.inl rfl)
  ·rw [yN hu];refine .inr (.inr ⟨u,rfl,by omega,by omega,fun e=>?_⟩);rw [Lib.itoa_nonneg] at e;have:=zf8 u (by omega);rw [e,h] at this;cases this
open Go.RowKit Go.Sort

def numC : Option Int -> Ending
  | none => .returned (.tuple #[.int .i64 0, .int .i64 112])
  | some n => .returned (.tuple #[.int .i64 n, .int .i64 0])
theorem zjB (s:ByteArray) (l:List UInt8):(l == s.toList)=decide (l=s.data.toList):=by
 rw [Bool.eq_iff_iff,beq_iff_eq,ByteArray.toList_eq];simp
theorem zjU (s:ByteArray) (w:World) (hG:Glob w) (hs:s.size<=16384) (h0:0 < s.size) (hd:zaG s[0]=true) :
  Calls Tryz.prog 163 #[.string s] w fun e w'=>e=numC (zaS s.data.toList)/\Below w.heap.size w w':=by
 obtain ⟨b,r,hl,hb⟩:∃ b r,s.data.toList=b :: r/\zaG b=true:=by
  have e:=zdH s 0 h0
  cases hl:s.data.toList with
  | nil=>have:=zaq s;rw [hl] at this;simp at this;omega
  | cons b r=>exact ⟨b,r,rfl,by simp only [hl,List.getElem_cons_zero] at e;rw [e];exact hd⟩
 cases hv:zaS s.data.toList with
 | some n =>
  rw [hl] at hv;obtain ⟨h1,h2,h3,h4⟩:=zk5 hb hv;rw [<- hl] at h1 h2;have HP:=zh (Tryz.strconv_ParseInt_10_at64_ok s (by omega) n h1 w);have HF:Hid (∀ w',Glob w'->Calls Tryz.prog 203 #[.int .i64 n,.int .i64 10] w' fun e w''=>e=.returned (.string ⟨(Lib.itoa n).toArray⟩)/\∃ k os,w''=grow (w'.drewN k) os):=zh (fun w' hG'=>Tryz.strconv_FormatInt_10 n (by omega) h4 w' hG'.pow);have ht:(Lib.itoa n == s.toList)=true:=by rw [zjB,h2];simp
  have HG:=zh hG;clear h1 h2 hv hl hb hd h0 hG;go_enter Tryz.func163,Tryz.ntmps163
  go_wp2_with fail
  go_at_call 202;refine HP.out.mono ?_;rintro e1 w1 ⟨rfl,hw⟩
  have Hb:Hid (Below w.heap.size w w1):=zh (by
   rcases hw with rfl | ⟨t,rfl⟩
   ·exact yR _ _
   ·exact Lib.bytesWorld_below _ _ _)
  clear hw;have HG1:=zh (HG.out.below Hb.out HG.out.size);go_wp2_with fail
  go_at_call 203;refine (HF.out _ HG1.out).mono ?_;rintro e1 w2 ⟨rfl,k,os,hw⟩;have Hb2:Hid (Below w.heap.size w w2):=zh (by rw [hw];exact Hb.out.trans (Lib.below_grow _ _ Hb.out.size _ _));clear hw;go_wp2_with fail
  go_ret2
  exact ⟨rfl,Hb2.out⟩
 | none =>
  rw [hl] at hv;rcases zmb hb hv with h1 | h1 | ⟨v,h1,h2,h3,h4⟩
  ·obtain ⟨tp,p,hp⟩:=hG.syn;rw [<- hl] at h1;have HP:=zh (Tryz.strconv_ParseInt_10_at64_syntax_var s (by omega) h1 tp p w hp);clear h1 hp hv hl hb hd h0 hG;go_enter Tryz.func163,Tryz.ntmps163
   go_wp2_with fail
   go_at_call 202;refine HP.out.mono ?_;rintro e1 w1 ⟨N,rfl,_,_,hb⟩;have Hb:=zh hb;clear hb;go_wp2_with fail
   go_ret2;exact ⟨rfl,Hb.out⟩
  ·obtain ⟨tp,p,hp⟩:=hG.rng;rw [<- hl] at h1;have HP:=zh (Tryz.strconv_ParseInt_10_at64_range_var s (by omega) h1 tp p w hp);clear h1 hp hv hl hb hd h0 hG;go_enter Tryz.func163,Tryz.ntmps163
   go_wp2_with fail
   go_at_call 202;refine HP.out.mono ?_;rintro e1 w1 ⟨N,rfl,_,_,hb⟩;have Hb:=zh hb;clear hb;go_wp2_with fail
   go_ret2;exact ⟨rfl,Hb.out⟩
  ·rw [<- hl] at h1 h4;have HP:=zh (Tryz.strconv_ParseInt_10_at64_ok s (by omega) v h1 w);have HF:Hid (∀ w',Glob w'->Calls Tryz.prog 203 #[.int .i64 v,.int .i64 10] w' fun e w''=>e=.returned (.string ⟨(Lib.itoa v).toArray⟩)/\∃ k os,w''=grow (w'.drewN k) os):=zh (fun w' hG'=>Tryz.strconv_FormatInt_10 v (by omega) h3 w' hG'.pow);have ht:(Lib.itoa v == s.toList)=false:=by rw [zjB];simp [h4]
   have HG:=zh hG;clear h1 h4 hv hl hb hd h0 hG;go_enter Tryz.func163,Tryz.ntmps163
   go_wp2_with fail
   go_at_call 202;refine HP.out.mono ?_;rintro e1 w1 ⟨rfl,hw⟩
   have Hb:Hid (Below w.heap.size w w1):=zh (by
    rcases hw with rfl | ⟨t,rfl⟩
    ·exact yR _ _
    ·exact Lib.bytesWorld_below _ _ _)
   clear hw;have HG1:=zh (HG.out.below Hb.out HG.out.size);go_wp2_with fail
   go_at_call 203;refine (HF.out _ HG1.out).mono ?_;rintro e1 w2 ⟨rfl,k,os,hw⟩;have Hb2:Hid (Below w.heap.size w w2):=zh (by rw [hw];exact Hb.out.trans (Lib.below_grow _ _ Hb.out.size _ _));clear hw;go_wp2_with fail
   go_ret2;exact ⟨rfl,Hb2.out⟩
def sigL : List UInt8 := [61, 61, 32, 33, 61, 32, 60, 61, 32, 62, 61, 32, 38, 38, 32, 124, 124, 32, 43, 32, 45, 32, 42, 32, 47, 32, 37, 32, 60, 32, 62, 32, 33, 32, 61, 32, 40, 32, 41, 32, 91, 32, 93, 32, 123, 32, 125, 32, 44, 32, 59]
def SG : List (List UInt8) := [[61, 61], [33, 61], [60, 61], [62, 61], [38, 38], [124, 124], [43], [45], [42], [47], [37], [60], [62], [33], [61], [40], [41], [91], [93], [123], [125], [44], [59]]
def sg (k : Nat) : List UInt8 := SG.getD k []
def stT : Nat -> Int
  | 0 => -1
  | i + 1 => if sigL.getD i 0 = 32 then -1 else if stT i < 0 then (i : Int) else stT i
def cntT : Nat -> Nat
  | 0 => 0
  | i + 1 => if sigL.getD i 0 = 32 then cntT i + 1 else cntT i
theorem zk6:∀ i:Fin 51,sigL.getD i.val 0=32->0<=stT i.val/\(stT i.val).toNat<=i.val/\cntT i.val < 22/\(sigL.drop (stT i.val).toNat).take (i.val - (stT i.val).toNat)=sg (cntT i.val):=by decide +kernel
theorem tab_last:stT 51=50/\cntT 51=22/\sigL.drop 50=sg 22:=by decide +kernel
theorem zk7:∀ i:Fin 52,-1<=stT i.val/\stT i.val < i.val/\cntT i.val<=22:=by decide +kernel
theorem zk8:∀ i:Fin 51,(sigL.getD i.val 0).toNat < 128/\((sigL.getD i.val 0).toNat≠32->(sigL.getD i.val 0).toNat < 9∨33<=(sigL.getD i.val 0).toNat):=by decide +kernel

def hitB (k : Nat) (rem : List UInt8) : Bool := (sg k).isPrefixOf rem
theorem sg_two:∀ k:Fin 6,∃ p ∈ zbB,sg k.val=[UInt8.ofNat p.1,UInt8.ofNat p.2]/\p.1 < 256/\p.2 < 256:=by decide +kernel
theorem two_sg:∀ p ∈ zbB,∃ k:Fin 6,sg k.val=[UInt8.ofNat p.1,UInt8.ofNat p.2]:=by decide +kernel
theorem sg_one:∀ k:Fin 17,∃ x ∈ zbt,sg (6+k.val)=[UInt8.ofNat x]/\x < 256:=by decide +kernel
theorem one_sg:∀ x ∈ zbt,∃ k:Fin 17,sg (6+k.val)=[UInt8.ofNat x]:=by decide +kernel
theorem zeR {n:Nat} (h:n < 256):(UInt8.ofNat n).toNat=n:=by simp only [UInt8.toNat_ofNat'];omega
theorem zh3 (a:UInt8):UInt8.ofNat a.toNat=a:=UInt8.toNat_inj.1 (zeR (by have:=a.toNat_lt;omega))
theorem zft {p l:List UInt8} (h:p.isPrefixOf l=true):l.take p.length=p/\p.length<=l.length:=by
 obtain ⟨t,rfl⟩:=List.isPrefixOf_iff_prefix.1 h;exact ⟨List.take_left,by simp⟩
theorem zm2 {k:Nat} (hk:k < 6) {rem:List UInt8} (h:hitB k rem=true):zag rem=(sg k).length/\(sg k).length=2:=by
 obtain ⟨p,hp,e,h1,h2⟩:=sg_two ⟨k,hk⟩;obtain ⟨t,rfl⟩:=List.isPrefixOf_iff_prefix.1 h;rw [show sg k=_ from e];refine ⟨?_,rfl⟩;show zag (UInt8.ofNat p.1 :: UInt8.ofNat p.2 :: t)=2;rw [zag,zeR h1,zeR h2,yP hp]
theorem zf9 {a b:UInt8} {r:List UInt8} (h:(a.toNat,b.toNat) ∈ zbB):∃ k,k < 6/\hitB k (a :: b :: r)=true:=by
 obtain ⟨k,hk⟩:=two_sg _ h;refine ⟨k.val,k.isLt,?_⟩;unfold hitB;rw [hk,zh3,zh3];simp [List.isPrefixOf]
theorem zm3 {k:Nat} (hk:6<=k) (hk2:k < 23) {rem:List UInt8} (h:hitB k rem=true) (hno:∀ j,j < k->hitB j rem=false):zag rem=(sg k).length/\(sg k).length=1:=by
 obtain ⟨x,hx,e,h1⟩:=sg_one ⟨k - 6,by omega⟩;have e':sg k=[UInt8.ofNat x]:=by rw [<- e];congr 1;show k=6+(k - 6);omega
 unfold hitB at h;rw [e'] at h ⊢;obtain ⟨t,rfl⟩:=List.isPrefixOf_iff_prefix.1 h;refine ⟨?_,rfl⟩
 cases t with
 | nil =>
  show zag [UInt8.ofNat x]=1
  rw [zag,zeR h1,yP hx]
 | cons b r =>
  show zag (UInt8.ofNat x :: b :: r)=1
  have hn:¬ ((UInt8.ofNat x).toNat,b.toNat) ∈ zbB:=by
   intro hin;obtain ⟨j,hj,hh⟩:=zf9 (r:=r) hin;have:=hno j (by omega);rw [show [UInt8.ofNat x]++b :: r=UInt8.ofNat x :: b :: r from rfl] at this;rw [hh] at this;cases this
  rw [zag,yN hn,zeR h1,yP hx]
theorem zk9 {k:Nat} (hk:k < 23) {rem:List UInt8} (h:hitB k rem=true) (hno:∀ j,j < k->hitB j rem=false):zag rem=(sg k).length/\zag rem≠0/\rem.take (zag rem)=sg k/\(sg k).length<=2/\1<=(sg k).length:=by
 have ht:=zft h;rcases Nat.lt_or_ge k 6 with h6 | h6
 ·have:=zm2 h6 h;exact ⟨this.1,by omega,by rw [this.1];exact ht.1,by omega,by omega⟩
 ·have:=zm3 h6 hk h hno;exact ⟨this.1,by omega,by rw [this.1];exact ht.1,by omega,by omega⟩
theorem zmc {rem:List UInt8} (h:∀ j,j < 23->hitB j rem=false):zag rem=0:=by
 have ho:∀ (a:UInt8) (r:List UInt8),rem=a :: r->¬ a.toNat ∈ zbt:=by
  intro a r e hin;obtain ⟨k,hk⟩:=one_sg _ hin;have:=h (6+k.val) (by omega);unfold hitB at this;rw [hk,zh3,e] at this;simp [List.isPrefixOf] at this
 match rem,h,ho with
 | [],_,_=>rfl
 | [a],_,ho=>rw [zag,yN (ho a [] rfl)]
 | a :: b :: r,h,ho =>
  rw [zag,yN,yN (ho a (b :: r) rfl)];intro hin;obtain ⟨j,hj,hh⟩:=zf9 (r:=r) hin;rw [h j (by omega)] at hh;cases hh

inductive HeadR where
  | eof
  | err (code : Int)
  | tok (kind : Int) (text : List UInt8) (n : Int)
def zcG : List UInt8 -> HeadR
  | [] => .eof
  | b :: r =>
    if zaH b = true then if 24 < ((b :: r).takeWhile zaf).length then .err 111 else .tok 1 ((b :: r).takeWhile zaf) 0
    else if zaG b = true then
      match zaS ((b :: r).takeWhile zaf) with
      | none => .err 112
      | some n => .tok 2 ((b :: r).takeWhile zaf) n
    else if zag (b :: r) = 0 then .err 110 else .tok 3 ((b :: r).take (zag (b :: r))) 0
theorem zeS (bs:List UInt8) (l c:Int):lexT bs l c=match zcG bs with
  | .eof=>.ok [⟨4,[],0,l,c⟩]
  | .err code=>.err l c code
  | .tok k t n=>(lexF (bs.drop t.length) l (c+t.length)).cons ⟨k,t,n,l,c⟩:=by
 cases bs with
 | nil=>rfl
 | cons b r =>
  show zaK lexF (b :: r) l c=_;rw [zaK,zcG];split
  ·split <;> rfl
  ·split
   ·split <;> simp [*]
   ·split
    ·rfl
    ·have hs:=zgI (b :: r);have:((b :: r).take (zag (b :: r))).length=zag (b :: r):=by rw [List.length_take];omega
     simp only [this]
open Go.RowKit Go.Shelf
attribute [local go_sem] Oper.semAt_some

def sigS : ByteArray := bstr sigL
theorem zla:sigS.size=51:=by rw [<- zaq];rfl
theorem zmd (i:Nat) (h:i < sigS.size):sigS[i]=sigL.getD i 0:=by
 rw [<- zdH sigS i h];have hl:sigS.data.toList=sigL:=by unfold sigS bstr;simp
 rw [List.getD_eq_getElem?_getD,yD (by rw [<- hl,zaq];exact h)];simp only [hl,Option.getD_some]
theorem zme (a b:Nat):sigS.extract a b=bstr ((sigL.drop a).take (b - a)):=by
 rw [zbk];have hl:sigS.data.toList=sigL:=by unfold sigS bstr;simp
 rw [hl]
theorem zh4 (n:Nat) (s:ByteArray) (w:World) :
  CallsIn Fence.wide n Tryz.prog 164 #[.string s] w fun e w'=>e=.returned (.func (.func 204) #[] #[.pointer (some ⟨w.heap.size,0,none⟩)])/\w'=w.alloc (.cells #[.string s] 9):=by
 refine callsIn_of_wp Tryz.func164 rfl trivial ?_ rfl;simp only [Tryz.ntmps164,List.size_toArray,yB,yL,Nat.reduceAdd,Nat.reduceSub,Array.replicate_succ,Array.replicate_zero,List.push_toArray,List.append_toArray,List.nil_append,List.cons_append];gi_wp2
 go_ret;exact ⟨rfl,rfl⟩
theorem zdX {k:Nat} (h:k < 23):(List.finRange 23).take k++[⟨k,h⟩]=(List.finRange 23).take (k+1):=by
 rw [List.take_succ_eq_append_getElem (by simpa using h)];simp
theorem zjV (n:Nat) (hn:1<=n) (l Bn n₀:Nat) (hB:Bn < n₀) (J Jx:List (Fin 23)->World->Prop)
  (hY:∀ pre x W,J pre W->pre.length < 23->YieldAt Fence.wide (n - 1) Tryz.prog l #[.string (bstr (sg x.val))] W fun e W' =>
   (e=.returned (.bool true)/\J (pre++[x]) W'/\Below n₀ W W')∨(e=.returned (.bool false)/\Jx (pre++[x]) W'))
  (W:World) (hG:Glob W) (hn0:glB<=n₀) (hBn:W.cell? ⟨Bn,0,none⟩=some (.string sigS)) (h0:J [] W) :
  CallsIn Fence.wide n Tryz.prog 204 #[.func (.yield l) #[] #[],.pointer (some ⟨Bn,0,none⟩)] W fun e W'=>(∃ v,e=.returned v) /\
   ((∃ ys,ys=List.finRange 23/\J ys W')∨(∃ pre,pre <+: List.finRange 23/\Jx pre W')):=by
 have Hsz:=zh zla;have Hget:=zh zmd;have Hcut:=zh zme
 generalize sigS=s at *
 have hs51:s.size<=51:=by rw [Hsz.out];omega
 have hs51':51<=s.size:=by rw [Hsz.out];omega
 have HG:=zh hG;have HBn:=zh hBn;clear hG;refine callsIn_of_wp Tryz.func204 rfl trivial ?_ rfl;simp only [Tryz.ntmps204,List.size_toArray,yB,yL,Nat.reduceAdd,Nat.reduceSub,Array.replicate_succ,Array.replicate_zero,List.push_toArray,List.append_toArray,List.nil_append,List.cons_append];gi_wp2
 clear hBn;gi_loopw [3,4,5,6,7,8,9,10,11,12,13,14,15,16,17,18,19,20,21,22,23,24,25,26,27,28,29,30,31,32,33,34,35,36,37,38,39,40,41,42,43,44,45,46,47,48] (fun t3 t4 _ _ _ _ _ _ _ _ _ _ _ _ _ _ _ _ _ _ _ _ _ _ _ _ _ _ _ _ _ _ _ _ _ _ _ _ _ _ _ _ _ _ _ _ wr=>∃ (i:Nat) (st:Int),i<=51/\t4=.int .i64 i/\t3=.int .i64 st/\Hid (st=stT i)/\J ((List.finRange 23).take (cntT i)) wr/\Below n₀ W wr) (fun _ t4 _ _ _ _ _ _ _ _ _ _ _ _ _ _ _ _ _ _ _ _ _ _ _ _ _ _ _ _ _ _ _ _ _ _ _ _ _ _ _ _ _ _ _ _ _=>51 - (intOf t4).toNat)
 case atStart=>exact ⟨0,-1,by omega,rfl,rfl,zh rfl,h0,yR _ _⟩
 case round =>
  obtain ⟨i,st,hi,rfl,rfl,Hst,hJ,hb⟩:=hrel;have hc:=(hb.cell (p:=⟨Bn,0,none⟩) hB).trans HBn.out;have Hb:=zh hb;have HG1:=zh (HG.out.below hb hn0);have Htb:=zh (zk7 ⟨i,by omega⟩);clear hb;by_cases hlt:i < 51
  ·have hlt':i < s.size:=by omega
   have Hsp:=zh (zk6 ⟨i,hlt⟩);have Hsm:=zh (zk8 ⟨i,hlt⟩);have Hgi:=zh (Hget.out i hlt');have hb1:s[i].toNat < 128:=by rw [Hgi.out];exact Hsm.out.1
   have hb2:¬ ((s[i].toNat:Int) >= 128):=by omega
   have hcell:=HG1.out.spaceCell s[i].toNat;by_cases h32:s[i].toNat=32
   ·have e32:sigL.getD i 0=32:=by rw [<- Hgi.out];exact UInt8.toNat_inj.1 (by simpa using h32)
    obtain ⟨k0,k1,k2,k3⟩:=Hsp.out e32;have hcell':wr.cell? ⟨0,s[i].toNat,none⟩=some (.int .u8 1):=by rw [hcell,h32];rfl
    clear hcell;obtain ⟨m,rfl⟩:∃ m:Nat,st=m:=⟨st.toNat,by have:=Hst.out;simp only at k0;omega⟩;have hm:(stT i).toNat=m:=by have:=Hst.out;omega
    have hmi:m<=i:=by rw [<- hm];exact k1
    have hcut:s.extract m i=bstr (sg (cntT i)):=by rw [Hcut.out,<- k3];simp only [hm]
    have Hc1:Hid (cntT (i+1)=cntT i+1):=zh (by rw [cntT,yP e32]);have Hs1:Hid (stT (i+1) = -1):=zh (by rw [stT,yP e32]);have hk23:cntT i < 23:=by simp only at k2;omega
    obtain ⟨fn,tmps,assign,body,hy,hR⟩:=hY _ ⟨cntT i,hk23⟩ wr hJ (by rw [List.length_take];simp;omega);dsimp only at hy;rw [<- hcut] at hy;clear hcut k0 k1 k2 k3 hm e32 hJ h32;gi_wp2
    refine hR.mono ?_;rintro e W3 (⟨rfl,hJ3,hk3⟩ | ⟨rfl,hJx3⟩)
    ·have Hk3:=zh hk3;clear hk3;gi_wp2
     go_roundw
     case rel=>exact ⟨i+1,-1,by omega,by go_num,rfl,zh (by rw [Hs1.out]),by rw [Hc1.out,<- zdX hk23];exact hJ3,Hb.out.trans Hk3.out⟩
     case measure=>simp [intOf];omega
    ·gi_wp2
     refine yE (results_none rfl _ _ _) rfl ?_;refine ⟨⟨_,rfl⟩,.inr ⟨_,?_,hJx3⟩⟩;rw [zdX hk23];exact List.take_prefix _ _
   ·have hne:¬ sigL.getD i 0=32:=by rw [<- Hgi.out];intro e;exact h32 (by rw [e];rfl)
    have hcell':wr.cell? ⟨0,s[i].toNat,none⟩=some (.int .u8 0):=by
     have h9:=Hsm.out.2 (by rw [<- Hgi.out];exact h32);rw [<- Hgi.out] at h9;rw [hcell]
     have:∀ j:Nat,j < 128->(j < 9∨33<=j)->(spaceTab.map fun z=>Value.int .u8 z)[j]? = some (.int .u8 0):=by
      intro j hj hj2;simp only [spaceTab,List.map_map,List.getElem?_map,List.getElem?_range (show j < 256 by omega),Option.map_some,Function.comp];rw [yN (by omega)]
     exact this _ hb1 h9
    clear hcell;have Hc1:Hid (cntT (i+1)=cntT i):=zh (by rw [cntT,yN hne]);by_cases hst:st < 0
    ·have Hs1:Hid (stT (i+1)=i):=zh (by rw [stT,yN hne,yP (by rw [<- Hst.out];exact hst)]);clear hne;gi_wp2
     go_roundw
     case rel=>exact ⟨i+1,i,by omega,by go_num,rfl,zh (by rw [Hs1.out]),by rw [Hc1.out];exact hJ,Hb.out⟩
     case measure=>simp [intOf];omega
    ·have Hs1:Hid (stT (i+1)=st):=zh (by rw [stT,yN hne,yN (by rw [<- Hst.out];exact hst),Hst.out]);have hst':0<=st:=by omega
     clear hne;gi_wp2
     go_roundw
     case rel=>exact ⟨i+1,st,by omega,by go_num,rfl,zh (by rw [Hs1.out]),by rw [Hc1.out];exact hJ,Hb.out⟩
     case measure=>simp [intOf];omega
  ·obtain rfl:i=51:=by omega
   have hle:¬ 51 < s.size:=by omega
   have hst:st=50:=by rw [Hst.out];exact tab_last.1
   subst hst;have hcut:s.extract 50 s.size=bstr (sg 22):=by rw [Hcut.out,<- tab_last.2.2,Hsz.out];rfl
   have hJ':J ((List.finRange 23).take 22) wr:=by have:=hJ;rw [tab_last.2.1] at this;exact this
   obtain ⟨fn,tmps,assign,body,hy,hR⟩:=hY _ ⟨22,by omega⟩ wr hJ' (by rw [List.length_take];simp);dsimp only at hy;rw [<- hcut] at hy;clear hcut hJ hJ';gi_wp2
   refine hR.mono ?_;rintro e W3 (⟨rfl,hJ3,hk3⟩ | ⟨rfl,hJx3⟩)
   all_goals
    gi_wp2
    refine bodyPost_end (results_none rfl _ _ _) rfl ?_
   ·refine ⟨⟨_,rfl⟩,.inl ⟨_,?_,hJ3⟩⟩;rw [zdX (by omega)];rfl
   ·refine ⟨⟨_,rfl⟩,.inr ⟨_,?_,hJx3⟩⟩;rw [zdX (by omega)];exact List.take_prefix _ _
theorem zh5 (n:Nat) (hn:1<=n) (Bn:Nat) (w:World) (hG:Glob w) (hBn:w.cell? ⟨Bn,0,none⟩=some (.string sigS)) (hlt:Bn < w.heap.size) :
  SeqStopsK Fence.wide n Tryz.prog 204 #[.pointer (some ⟨Bn,0,none⟩)] (fun x:Fin 23=>#[Value.string (bstr (sg x.val))]) (Below w.heap.size) (fun ys=>ys=List.finRange 23) (fun pre=>pre <+: List.finRange 23) 23 w:=
 fun l J Jx W hW _ _ hY h0=>zjV n hn l Bn w.heap.size hlt J Jx hY W (hG.below hW hG.size) hG.size ((hW.cell (p:=⟨Bn,0,none⟩) hlt).trans hBn) h0
abbrev BK := Int × List UInt8 × Int
def wK (s : List UInt8) : BK := (1, s, 0)
def sK (s : List UInt8) : BK := (3, s, 0)
def nK (n : Int) : BK := (2, Lib.decDigits n.toNat, n)
def zbE (p : Nat × List BK) (least : Nat) : List BK := if p.1 < least then sK [40] :: (p.2 ++ [sK [41]]) else p.2
def zdS (ps : List (Nat × List BK)) : Nat × List BK := ps.getD 0 (6, [])
def zjO (ps : List (Nat × List BK)) : Nat × List BK := ps.getD 1 (6, [])
def zcF (w : List UInt8) (o c : List UInt8) (a : List BK) : List BK := wK w :: sK o :: (a ++ [sK c])
def zdt (w : List UInt8) (a b : List BK) : List BK := wK w :: sK [40] :: (a ++ sK [44] :: (b ++ [sK [41]]))
def zhI (op n : Int) (name : List UInt8) (ps : List (Nat × List BK)) : List BK :=
  if zar op < 6 then zbE (zdS ps) (zby (zar op)) ++ sK (zaO op) :: zbE (zjO ps) (zar op + 1)
  else if op = 1 then [nK n]
  else if op = 2 then [wK name]
  else if op = 3 then zcF (kindWords.getD (n - 1).toNat []) [91] [93] (zdS ps).2
  else if op = 4 then [wK [116, 105, 99, 107]]
  else if op = 5 then [wK [115, 101, 108, 102]]
  else if op = 6 then zcF [114, 97, 110, 100] [40] [41] (zdS ps).2
  else if op = 7 then sK [45] :: zbE (zdS ps) 6
  else if op = 8 then sK [33] :: zbE (zdS ps) 6
  else if op = 9 then zcF [97, 98, 115] [40] [41] (zdS ps).2
  else if op = 23 then zdt [109, 105, 110] (zdS ps).2 (zjO ps).2
  else zdt [109, 97, 120] (zdS ps).2 (zjO ps).2
mutual
def zae : Ex -> List BK
  | .mk op n name args => zhI op n name (zfc args)
def zfc : List Ex -> List (Nat × List BK)
  | [] => []
  | .mk op n name args :: r => (zar op, zhI op n name (zfc args)) :: zfc r
end
def opE : Ex -> Int | .mk op _ _ _ => op
def zat (x : Ex) : Nat := zar (opE x)
inductive Shp : Nat -> Ex -> Prop
  | num {d : Nat} {n : Int} (h0 : 0 <= n) (h1 : n <= 9223372036854775807) : Shp (d + 1) (.mk 1 n [] [])
  | var {d : Nat} {name : List UInt8} (h : zaP name = true) : Shp (d + 1) (.mk 2 0 name [])
  | comp {d : Nat} {n : Int} {a : Ex} (h0 : 1 <= n) (h1 : n <= 10) (h : Shp d a) : Shp (d + 1) (.mk 3 n [] [a])
  | leaf {d : Nat} {op : Int} (h : op = 4 ∨ op = 5) : Shp (d + 1) (.mk op 0 [] [])
  | call {d : Nat} {op : Int} {a : Ex} (ho : op = 6 ∨ op = 9) (h : Shp d a) : Shp (d + 1) (.mk op 0 [] [a])
  | pre {d : Nat} {op : Int} {a : Ex} (ho : op = 7 ∨ op = 8) (h : Shp d a) : Shp (d + 1) (.mk op 0 [] [a])
  | bin {d : Nat} {op : Int} {a b : Ex} (h0 : 10 <= op) (h1 : op <= 22) (ha : Shp d a) (hb : Shp d b) : Shp (d + 1) (.mk op 0 [] [a, b])
  | two {d : Nat} {op : Int} {a b : Ex} (ho : op = 23 ∨ op = 24) (ha : Shp d a) (hb : Shp d b) : Shp (d + 1) (.mk op 0 [] [a, b])
def Seg (l : List Tok) (i : Nat) (ks : List BK) : Prop := ∃ p s, l.map Tok.bare = p ++ ks ++ s /\ p.length = i
theorem Seg.app {l:List Tok} {i:Nat} {a b:List BK} (h:Seg l i (a++b)):Seg l i a/\Seg l (i+a.length) b:=by
 obtain ⟨p,s,h1,h2⟩:=h;exact ⟨⟨p,b++s,by rw [h1];simp,h2⟩,⟨p++a,s,by rw [h1];simp,by rw [yA,h2]⟩⟩
theorem Seg.le {l:List Tok} {i:Nat} {a:List BK} (h:Seg l i a):i+a.length<=l.length:=by
 obtain ⟨p,s,h1,h2⟩:=h;have:=congrArg List.length h1;simp only [List.length_map,yA] at this;omega
theorem Seg.at {l:List Tok} {i:Nat} {k:BK} {r:List BK} (h:Seg l i (k :: r)):(zaa l i).bare=k/\i < l.length:=by
 have hle:=h.le;simp only [yB] at hle;have hlt:i < l.length:=by omega
 refine ⟨?_,hlt⟩;obtain ⟨p,s,h1,rfl⟩:=h
 have h2:(l.map Tok.bare)[p.length]? = some k:=by
  rw [h1,List.append_assoc,List.getElem?_append_right (zr _),Nat.sub_self];rfl
 rw [List.getElem?_map,yD hlt] at h2;unfold zaa;rw [List.getD_eq_getElem?_getD,yD hlt];exact Option.some.inj h2
theorem Seg.tail {l:List Tok} {i:Nat} {k:BK} {r:List BK} (h:Seg l i (k :: r)):Seg l (i+1) r:=(Seg.app (a:=[k]) h).2
theorem zcp {t:Tok} {a:Int} {b:List UInt8} {c:Int} (h:t.bare=(a,b,c)):t.kind=a/\t.text=b/\t.n=c:=by
 unfold Tok.bare at h;exact ⟨congrArg (·.1) h,congrArg (·.2.1) h,congrArg (·.2.2) h⟩
theorem zcb {l:List Tok} {i:Nat} {s:List UInt8} (h:(zaa l i).bare=sK s) (u:List UInt8):isS l i u=decide (s=u):=by
 obtain ⟨h1,h2,-⟩:=zcp h;unfold isS;rw [h1,h2];simp
theorem zeN {l:List Tok} {i:Nat} {s:List UInt8} (h:(zaa l i).bare=sK s):za3 l i=zai s signWords 0/\zaj l i=strongs.getD (zai s signWords 0) 0:=by
 obtain ⟨h1,h2,-⟩:=zcp h;have e:za3 l i=zai s signWords 0:=by unfold za3;rw [yP h1,h2]
 exact ⟨e,by unfold zaj;rw [e]⟩
theorem zhJ {op:Int} (h0:10<=op) (h1:op<=22):∃ k:Fin 13,op=10+(k.val:Int):=⟨⟨(op - 10).toNat,by omega⟩,by show op=10+((op - 10).toNat:Int);omega⟩
theorem zdE {op:Int} (h0:10<=op) (h1:op<=22):(9+(zai (zaO op) signWords 0:Int)=op)/\strongs.getD (zai (zaO op) signWords 0) 0=zar op/\1<=zar op/\zar op<=5:=by
 obtain ⟨k,rfl⟩:=zhJ h0 h1;revert k;decide
theorem zhK {op:Int} (h:¬ (10<=op/\op<=22)):zar op=6:=by unfold zar;rw [yN h]
theorem zhL (n:Nat):n<=zby n:=by unfold zby;split <;> omega
def Follow (n s : Nat) : Prop := s = 0 ∨ zby s <= n
theorem Follow.lt {n s:Nat} (h:Follow n s):s<=n:=by
 rcases h with rfl | h
 ·omega
 ·have:=zhL s;omega
theorem Follow.mono {n m s:Nat} (h:Follow n s) (hm:n<=m):Follow m s:=by
 rcases h with h | h
 ·exact .inl h
 ·exact .inr (yT h hm)
theorem zeo {l:List Tok} {E:Nat->Nat->Nat->PR Ex} {f i o:Nat} (h1:isS l i [45]=false) (h2:isS l i [33]=false):zas l E (f+1) i o=zah l E i o:=by
 rw [zas,yP ⟨h1,h2⟩]
theorem zhM {l:List Tok} {i o:Nat} {s:List UInt8} (h:isS l i s=true) (ho:o < 200):zay l i s o=.ok () (i+1):=by
 unfold zay;rw [h,yN (by decide),yN (by omega)]
theorem zfZ {l:List Tok} {E:Nat->Nat->Nat->PR Ex} {i o j:Nat} {a b:List UInt8} {x:Ex} (h:isS l i a=true) (ho:o < 200) (hE:E (i+1) (o+1) 1=.ok x j) (hj:isS l j b=true):zad l E i o a b 1=.ok [x] (j+1):=by
 unfold zad;rw [zhM h ho];simp only [PR.andThen,zav,if_true,hE,hj]
def Reads (l : List Tok) (E : Nat -> Nat -> Nat -> PR Ex) (o i q : Nat) (x : Ex) (j : Nat) : Prop :=
  (zas l E (l.length + 1 - i) i o).andThen (fun y k => zaD l E (l.length + 1 - k) y k o q) = zaD l E (l.length + 1 - j) x j o q
theorem Reads.of_unary {l:List Tok} {E:Nat->Nat->Nat->PR Ex} {o i q:Nat} {x:Ex} {j:Nat} (h:zas l E (l.length+1 - i) i o=.ok x j):Reads l E o i q x j:=by
 unfold Reads;rw [h];rfl
theorem Reads.done {l:List Tok} {f o i q:Nat} {x:Ex} {j:Nat} (h:Reads l (zaw l f) o i q x j) (hf:l.length+1 - i<=f+1) (hj:j<=l.length) (hs:zaj l j < q∨zaj l j=0):zaw l (f+1) i o q=.ok x j:=by
 show (zas l (zaw l f) (l.length+1 - i) i o).andThen (fun x j=>zaD l (zaw l f) (l.length+1 - j) x j o q)=_;unfold Reads at h;rw [h];obtain ⟨n,hn⟩:∃ n,l.length+1 - j=n+1:=⟨l.length - j,by omega⟩;rw [hn,zaD,yP hs]
theorem zjt (x:Ex) (least:Nat):zbE (zat x,zae x) least=if zat x < least then sK [40] :: (zae x++[sK [41]]) else zae x:=rfl
theorem zhN (x:Ex):1<=zat x:=by
 unfold zat;by_cases h:10<=opE x/\opE x<=22
 ·have:=zdE h.1 h.2;omega
 ·rw [zhK h];omega
def zf0 (l : List Tok) (d : Nat) (x : Ex) : Prop := ∀ (i o f : Nat), Seg l i (zae x) -> o + 2 * d <= 200 -> l.length + 1 - i <= f + 1 -> zas l (zaw l f) (l.length + 1 - i) i o = .ok x (i + (zae x).length)
def Back (l : List Tok) (d : Nat) (x : Ex) : Prop :=
  (∀ (i o q f : Nat), q <= zat x -> Seg l i (zae x) -> Follow (zat x) (zaj l (i + (zae x).length)) -> o + 2 * d <= 200 -> l.length + 1 - i <= f + 1 -> Reads l (zaw l f) o i q x (i + (zae x).length)) /\ (zat x = 6 -> zf0 l d x)
theorem Back.of_unary {l:List Tok} {d:Nat} {x:Ex} (h:zf0 l d x):Back l d x:=⟨fun i o _ f _ hs _ ho hf=>Reads.of_unary (h i o f hs ho hf),fun _=>h⟩
theorem Back.expr {l:List Tok} {d:Nat} {x:Ex} (h:Back l d x) {i o q f:Nat} (hq:q<=zat x) (hs:Seg l i (zae x)) (hF:Follow (zat x) (zaj l (i+(zae x).length))) (hs2:zaj l (i+(zae x).length) < q∨zaj l (i+(zae x).length)=0) (ho:o+2 * d<=200) (hf:l.length+1 - i<=f):zaw l f i o q=.ok x (i+(zae x).length):=by
 have hle:=hs.le;obtain ⟨g,rfl⟩:∃ g,f=g+1:=⟨f - 1,by omega⟩;exact (h.1 i o q g hq hs hF ho hf).done hf hle hs2
theorem Back.zero {l:List Tok} {d:Nat} {x:Ex} (h:Back l d x) {i o f:Nat} (hs:Seg l i (zae x)) (h0:zaj l (i+(zae x).length)=0) (ho:o+2 * d<=200) (hf:l.length+1 - i<=f):zaw l f i o 1=.ok x (i+(zae x).length):=
 h.expr (zhN x) hs (.inl h0) (.inr h0) ho hf
theorem zfd {l:List Tok} {i:Nat} {s:List UInt8} (h:(zaa l i).bare=sK s) (h0:zai s signWords 0=0):zaj l i=0:=by
 rw [(zeN h).2,h0];rfl
theorem Back.inside {l:List Tok} {d:Nat} {x:Ex} (h:Back l d x) {i o f:Nat} {a b:List UInt8} (hs:Seg l i (sK a :: (zae x++[sK b]))) (hb:zai b signWords 0=0) (ho:o+2 * d < 200) (hf:l.length+1 - i<=f+1):zad l (zaw l f) i o a b 1=.ok [x] (i+(zae x).length+2):=by
 obtain ⟨h1,hlt⟩:=hs.at;obtain ⟨h2,h3⟩:=hs.tail.app;obtain ⟨h4,hlt4⟩:=h3.at;have e1:isS l i a=true:=by rw [zcb h1];simp
 have e4:isS l (i+1+(zae x).length) b=true:=by rw [zcb h4];simp
 rw [zfZ e1 (by omega) (h.zero h2 (zfd h4 hb) (by omega) (by omega)) e4];congr 1
 omega
theorem zeK {l:List Tok} {E:Nat->Nat->Nat->PR Ex} {i o j:Nat} {x:Ex} (h:(zaa l i).bare=sK [40]) (hi:zad l E i o [40] [41] 1=.ok [x] j):zah l E i o=.ok x j:=by
 obtain ⟨h1,h2,-⟩:=zcp h;unfold zah;rw [h1,yN (by decide),zcb h,yP (by decide),hi];rfl
theorem Back.paren {l:List Tok} {d:Nat} {x:Ex} (h:Back l d x) {i o f g:Nat} (hs:Seg l i (sK [40] :: (zae x++[sK [41]]))) (ho:o+2 * d < 200) (hf:l.length+1 - i<=f+1):zas l (zaw l f) (g+1) i o=.ok x (i+(sK [40] :: (zae x++[sK [41]])).length):=by
 obtain ⟨h1,hlt⟩:=hs.at;rw [zeo (by rw [zcb h1];decide) (by rw [zcb h1];decide),zeK h1 (h.inside hs (by decide) ho hf)];congr 1
 simp only [yB,yA,yL];omega
theorem Back.part {l:List Tok} {d:Nat} {x:Ex} (h:Back l d x) {i o q f least:Nat} (hq:q<=least) (hs:Seg l i (zbE (zat x,zae x) least)) (hF:Follow least (zaj l (i+(zbE (zat x,zae x) least).length))) (ho:o+2 * d < 200) (hf:l.length+1 - i<=f+1) :
  Reads l (zaw l f) o i q x (i+(zbE (zat x,zae x) least).length):=by
 rw [zjt] at *
 by_cases hb:zat x < least
 ·rw [yP hb] at *
  obtain ⟨-,hlt⟩:=hs.at;obtain ⟨g,hg⟩:∃ g,l.length+1 - i=g+1:=⟨l.length - i,by omega⟩;refine Reads.of_unary ?_;rw [hg];exact h.paren hs ho hf
 ·rw [yN hb] at *
  exact h.1 i o q f (by omega) hs (hF.mono (by omega)) (by omega) hf
end Go.Proofs.YtdhikpkecmaplaaGreatDoor
