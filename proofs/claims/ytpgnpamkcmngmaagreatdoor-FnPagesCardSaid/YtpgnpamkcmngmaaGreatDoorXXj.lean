import Derived.Test.YtpgnpamkcmngmaaGreatDoorXXi
namespace Go.Proofs.YtpgnpamkcmngmaaGreatDoor
set_option linter.unusedVariables false
set_option maxRecDepth 100000
set_option linter.unusedSimpArgs false
section
end
section
open Go.RowKit
theorem jro (r:ByteArray) (n:Nat):(tkS r n).size<=n:=by
 unfold tkS
 by_cases h:n<=r.size
 .rw [if_pos h,ByteArray.size_extract]; omega
 .rw [if_neg h]; exact Nat.zero_le _
theorem ja5 (r:ByteArray) (n:Nat):(tkR r n).size<=r.size:=by
 unfold tkR
 by_cases h:n<=r.size
 .rw [if_pos h,ByteArray.size_extract]; omega
 .rw [if_neg h]; exact Nat.le_refl _
theorem jaL (r:ByteArray):0<=oneV r/\oneV r<=255:=by
 unfold oneV numV
 have h1:=jnQ (tkS r 1).data.toList
 have h2:=jro r 1
 rw [jab] at h2
 have h3:256^(tkS r 1).data.toList.length<=256^1:=Nat.pow_le_pow_right (by decide) h2
 omega
theorem jgE (r:ByteArray):(t1R r).size<=r.size:=Nat.le_trans (ja5 _ _) (ja5 _ _)
theorem jrM (r:ByteArray):(t1S r).size<=255:=by
 have:=jro (tkR r 1) (oneV r).toNat
 have h:=jaL r
 unfold t1S
 omega
theorem jor (a r:ByteArray) {n:Nat} (h:n=a.size):tkS (a++r) n=a:=by
 unfold tkS
 rw [if_pos (by rw [nqM]; omega),h]
 exact ByteArray.extract_append_eq_left rfl
theorem jbZ (a r:ByteArray) {n:Nat} (h:n=a.size):tkR (a++r) n=r:=by
 unfold tkR
 rw [if_pos (by rw [nqM]; omega),h,nqM]
 exact ByteArray.extract_append_eq_right rfl rfl
theorem jd2 (a r:ByteArray) (b:Bool) {n:Nat} (h:n=a.size):tkB (a++r) b n=b:=by
 unfold tkB
 rw [if_pos (by rw [nqM]; omega)]
theorem jcW (n:Nat) (r:ByteArray) (h:n<=255):oneV (litV (n:Int) 1++r)=n:=by
 unfold oneV
 rw [jor _ _ (jam _ _).symm,jhY]
 show ((numL [UInt8.ofNat n]:Nat):Int)=n
 show (((UInt8.ofNat n).toNat+256*0:Nat):Int)=n
 rw [UInt8.toNat_ofNat_of_lt' (by simpa using (by omega:n<256))]
 omega
theorem jln (a r:ByteArray) (h:a.size<=255):t1S (jbo a++r)=a/\t1R (jbo a++r)=r/\∀ b,t1B (jbo a++r) b=b:=by
 have e:jbo a++r=litV (a.size:Int) 1++(a++r):=by rw [jf5,ByteArray.append_assoc]
 have e1:=jcW a.size (a++r) h
 have e2:tkR (litV (a.size:Int) 1++(a++r)) 1=a++r:=jbZ _ _ (jam _ _).symm
 unfold t1S t1R t1B
 rw [e,e1,e2,nqF]
 exact ⟨jor _ _ rfl,jbZ _ _ rfl,fun b=>by rw [jd2 _ _ _ (jam _ _).symm,jd2 _ _ _ rfl]⟩
end
section
open Go.RowKit
def rst (s:ByteArray) (a:Nat):ByteArray:=s.extract a s.size
def posR (s r:ByteArray):Int:=((s.size-r.size:Nat):Int)
end
section
end
section
open Go.RowKit
theorem jqc (d:ByteArray) (i j k l:Nat) (h:i+l<=j):(d.extract i j).extract k l=d.extract (i+k) (i+l):=by
 rw [ByteArray.extract_extract,Nat.min_eq_left h]
theorem jeS {s:ByteArray} {k:Nat} (h:k<=s.size):(rst s k).size=s.size-k:=by
 unfold rst
 rw [ByteArray.size_extract]
 omega
theorem jqW (s:ByteArray):rst s 0=s:=by
 unfold rst
 exact ByteArray.extract_zero_size
theorem joN {s:ByteArray} {k n:Nat} (h:k+n<=s.size):tkR (rst s k) n=rst s (k+n):=by
 unfold tkR
 rw [if_pos (by rw [jeS (by omega)]; omega),jeS (by omega)]
 unfold rst
 rw [jqc _ _ _ _ _ (by omega),show k+(s.size-k)=s.size by omega]
theorem jlP {s:ByteArray} {k n:Nat} (hk:k<=s.size) (h:¬ k+n<=s.size):tkR (rst s k) n=rst s k:=by
 unfold tkR
 rw [if_neg (by rw [jeS hk]; omega)]
theorem jlF {s:ByteArray} {k:Nat} (h:k<=s.size):posR s (rst s k)=k:=by
 unfold posR
 rw [jeS h,show s.size-(s.size-k)=k by omega]
theorem jsg {s:ByteArray} {k:Nat} (hk:k<=s.size) (n:Nat):∃ j:Nat,j<=s.size/\posR s (tkR (rst s k) n)=j/\tkR (rst s k) n=rst s j:=by
 by_cases h:k+n<=s.size
 .exact ⟨k+n,h,by rw [joN h,jlF h],joN h⟩
 .exact ⟨k,hk,by rw [jlP hk h,jlF hk],jlP hk h⟩
theorem jb0 (X:ByteArray):jal (jah X)=some X.data.toList:=jbK X.data.toList
def Suf (s r:ByteArray):Prop:=∃ k,k<=s.size/\r=rst s k
theorem Suf.tk {s r:ByteArray} (h:Suf s r) (n:Nat):Suf s (tkR r n):=by
 obtain ⟨k,hk,rfl⟩:=h
 obtain ⟨j,h1,_,h3⟩:=jsg hk n
 exact ⟨j,h1,h3⟩
theorem Suf.all (s:ByteArray):Suf s s:=⟨0,Nat.zero_le _,(jqW s).symm⟩
theorem Suf.t1 {s r:ByteArray} (h:Suf s r):Suf s (t1R r):=Suf.tk (Suf.tk h _) _
theorem Suf.r3 {s r:ByteArray} (h:Suf s r):Suf s (Go.Proofs.YtpgnpamkcmngmaaGreatDoor.r3 r):=Suf.tk (Suf.t1 h) _
end
section
open Go.RowKit
end
section
end
end Go.Proofs.YtpgnpamkcmngmaaGreatDoor
