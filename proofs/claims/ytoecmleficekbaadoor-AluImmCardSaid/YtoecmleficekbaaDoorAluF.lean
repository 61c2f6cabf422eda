/- What package alu computes, in plain Lean. -/
import Derived.Test.YtoecmleficekbaaDoorCapF
import Derived.Test.YtoecmleficekbaaDoorWordF
namespace Go.Proofs.YtoecmleficekbaaDoor
open Go.RowKit
def Cp.nil : Cp := ⟨false, 0, 0, 0, 0, 0⟩
def Cp.ofBool (m : Bool) : Cp := Cp.int (if m then 1 else 0)
def partsR (o : List UInt8) (c : Cp) : Option Cp :=
  if o == [99, 98, 97, 115, 101] then some (Cp.int c.base) else   -- cbase
  if o == [99, 116, 111, 112] then some (Cp.int c.top) else   -- ctop
  if o == [99, 97, 100, 100, 114] then some (Cp.int c.addr) else   -- caddr
  if o == [99, 112, 101, 114, 109] then some (Cp.int c.perm) else   -- cperm
  if o == [99, 116, 121, 112, 101] then some (Cp.int c.typ) else   -- ctype
  if o == [99, 116, 97, 103] then some (Cp.ofBool c.tag) else   -- ctag
  none
def Cp.boundsI (c : Cp) (n : Int) : Cp := if n < 0 then (c.bounds 0).clear else c.bounds n
def derivedR (o : List UInt8) (c k : Cp) (n : Int) : Option Cp :=
  if o == [109, 118] then some (c) else   -- mv
  if o == [99, 105, 110, 99, 105] then some (c.setAddr ((n % 4294967296 + c.addr) % 4294967296)) else   -- cinci
  if o == [99, 105, 110, 99] then some (c.setAddr ((k.addr + c.addr) % 4294967296)) else   -- cinc
  if o == [99, 115, 101, 116, 97, 100, 100, 114] then some (c.setAddr k.addr) else   -- csetaddr
  if o == [99, 98, 111, 117, 110, 100, 115, 105] then some (c.boundsI n) else   -- cboundsi
  if o == [99, 98, 111, 117, 110, 100, 115] then some (c.bounds k.addr) else   -- cbounds
  if o == [99, 97, 110, 100, 112, 105] then some (c.andPerm (n % 4294967296 % 65536)) else   -- candpi
  if o == [99, 97, 110, 100, 112] then some (c.andPerm (k.addr % 65536)) else   -- candp
  if o == [99, 99, 108, 101, 97, 114] then some (c.clear) else   -- cclear
  if o == [99, 115, 101, 97, 108] then some (c.shutBy k) else   -- cseal
  if o == [99, 117, 110, 115, 101, 97, 108] then some (c.openBy k) else   -- cunseal
  if o == [99, 101, 110, 116, 101, 114] then some (c.enter) else   -- center
  none
def Cp.eqB (c k : Cp) : Bool := c.tag == k.tag && (c.base == k.base && (c.top == k.top && (c.addr == k.addr && (c.perm == k.perm && c.typ == k.typ))))
def comparedR (o : List UInt8) (c k : Cp) : Option Cp :=
  if o == [99, 115, 117, 98] then some (Cp.int ((c.addr + -k.addr % 4294967296) % 4294967296)) else   -- csub
  if o == [99, 115, 117, 98, 115, 101, 116] then some (Cp.ofBool (c.tag && k.tag && c.sub k)) else   -- csubset
  if o == [99, 101, 113] then some (Cp.ofBool (c.eqB k)) else   -- ceq
  none
def plainR (o : List UInt8) (c : Cp) (n : Int) : Option Cp :=
  if o == [108, 117, 105] then some (Cp.int (n % 4294967296 * 65536 % 4294967296)) else   -- lui
  if o == [108, 105] then some (Cp.int (n % 4294967296)) else   -- li
  if o == [97, 100, 100, 105] then some (Cp.int ((doR [97, 100, 100] c.addr (n % 4294967296)).getD 0)) else   -- addi
  if o == [97, 110, 100, 105] then some (Cp.int ((doR [97, 110, 100] c.addr (n % 4294967296)).getD 0)) else   -- andi
  if o == [111, 114, 105] then some (Cp.int ((doR [111, 114] c.addr (n % 4294967296)).getD 0)) else   -- ori
  if o == [120, 111, 114, 105] then some (Cp.int ((doR [120, 111, 114] c.addr (n % 4294967296)).getD 0)) else   -- xori
  if o == [115, 108, 108, 105] then some (Cp.int ((doR [115, 108, 108] c.addr (n % 4294967296)).getD 0)) else   -- slli
  if o == [115, 114, 108, 105] then some (Cp.int ((doR [115, 114, 108] c.addr (n % 4294967296)).getD 0)) else   -- srli
  if o == [115, 108, 116, 105] then some (Cp.int ((doR [115, 108, 116] c.addr (n % 4294967296)).getD 0)) else   -- slti
  none
def numbersR (o : List UInt8) (c k : Cp) : Option Cp := (doR o c.addr k.addr).map Cp.int
/-- What an instruction makes. -/
def aluR (o : List UInt8) (c k : Cp) (n : Int) : Option Cp :=
  match numbersR o c k with
  | some r => some r
  | none => match plainR o c n with
    | some r => some r
    | none => match partsR o c with
      | some r => some r
      | none => match derivedR o c k n with
        | some r => some r
        | none => comparedR o c k
end Go.Proofs.YtoecmleficekbaaDoor
