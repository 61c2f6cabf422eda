/- Capabilities in plain Lean (chapter 2). -/
import Derived.Test.YtplejhefhnmabaaGreatDoorLay
import Derived.Laws.BitsAllLaws
namespace Go.Proofs.YtplejhefhnmabaaGreatDoor
open Go.RowKit
structure Cp where
  tag : Bool
  base : Int
  top : Int
  addr : Int
  perm : Int
  typ : Int
/-- Each field is of its kind. -/
structure Cp.Ok (c : Cp) : Prop where
  b0 : 0 ≤ c.base
  b1 : c.base < 4294967296
  t0 : 0 ≤ c.top
  t1 : c.top < 4294967296
  a0 : 0 ≤ c.addr
  a1 : c.addr < 4294967296
  p0 : 0 ≤ c.perm
  p1 : c.perm < 65536
  y0 : 0 ≤ c.typ
  y1 : c.typ < 65536
def capV (c : Cp) : Value := .agg #[.bool c.tag, .int .u32 c.base, .int .u32 c.top, .int .u32 c.addr, .int .u16 c.perm, .int .u16 c.typ]
def capCells (c : Cp) : List Value := [.bool c.tag, .int .u32 c.base, .int .u32 c.top, .int .u32 c.addr, .int .u16 c.perm, .int .u16 c.typ]
namespace Cp
def int (v : Int) : Cp := ⟨false, 0, 0, v, 0, 0⟩
def root (n : Int) : Cp := ⟨true, 0, n, 0, 127, 0⟩
def kept (c : Cp) (b : Bool) : Cp := { c with tag := c.tag && b }
def has (c : Cp) (a n : Int) : Bool := decide (c.base ≤ a) && decide (a + n ≤ c.top)
def permits (c : Cp) (p : Int) : Bool := bits .and .u16 c.perm p == p
def isOpen (c : Cp) : Bool := c.typ == 0
def setAddr (c : Cp) (a : Int) : Cp := kept { c with addr := a } c.isOpen
def bounds (c : Cp) (n : Int) : Cp := kept { c with base := c.addr, top := (c.addr + n) % 4294967296 } (c.isOpen && c.has c.addr n)
def andPerm (c : Cp) (m : Int) : Cp := kept { c with perm := bits .and .u16 c.perm m } c.isOpen
def clear (c : Cp) : Cp := c.kept false
/-- May a capability seal, or unseal, by its address? -/
def key (k : Cp) (p : Int) : Bool := k.tag && ((k.has k.addr 1 && k.permits p) && k.isOpen)
def shutOk (c k : Cp) : Bool := c.isOpen && (k.key 32 && (decide (2 ≤ k.addr) && decide (k.addr < 1024)))
def shutBy (c k : Cp) : Cp := if c.shutOk k then { c with typ := k.addr } else c.kept false
def openOk (c k : Cp) : Bool := decide (2 ≤ c.typ) && (k.key 64 && k.addr == c.typ)
def openBy (c k : Cp) : Cp := if c.openOk k then { c with typ := 0 } else c.kept false
def enter (c : Cp) : Cp := kept { c with typ := 1 } (c.permits 4 && c.isOpen)
def sub (a b : Cp) : Bool := decide (b.base ≤ a.base) && (decide (a.top ≤ b.top) && bits .andNot .u16 a.perm b.perm == 0)
end Cp
end Go.Proofs.YtplejhefhnmabaaGreatDoor
