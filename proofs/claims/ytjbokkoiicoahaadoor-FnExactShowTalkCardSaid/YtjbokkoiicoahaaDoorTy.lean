/- The types. -/
import Derived.Test.YtjbokkoiicoahaaDoorAtab
import Derived.Test.YtjbokkoiicoahaaDoorAvg
namespace Go.Av
open Go Go.Proofs
set_option maxRecDepth 100000
set_option maxHeartbeats 4000000
set_option linter.unusedVariables false
set_option linter.unusedSimpArgs false
def eInt (x : Int) : List PV := [.int .i64 x]

theorem er_Int (x : Int) : eraseL (eInt x) = eInt x := rfl

theorem erR_Int (xs : List Int) : eraseR (xs.map eInt) = xs.map eInt := eraseR_map _ _ er_Int xs

theorem frR_Int (xs : List Int) : freshR (xs.map eInt) = True := fresh_map _ (fun x => by simp only [eInt, freshL, fresh, and_self]) xs

def eU8 (x : Int) : List PV := [.int .u8 x]

theorem er_U8 (x : Int) : eraseL (eU8 x) = eU8 x := rfl

theorem erR_U8 (xs : List Int) : eraseR (xs.map eU8) = xs.map eU8 := eraseR_map _ _ er_U8 xs

theorem frR_U8 (xs : List Int) : freshR (xs.map eU8) = True := fresh_map _ (fun x => by simp only [eU8, freshL, fresh, and_self]) xs

def eU32 (x : Int) : List PV := [.int .u32 x]

theorem er_U32 (x : Int) : eraseL (eU32 x) = eU32 x := rfl

theorem erR_U32 (xs : List Int) : eraseR (xs.map eU32) = xs.map eU32 := eraseR_map _ _ er_U32 xs

theorem frR_U32 (xs : List Int) : freshR (xs.map eU32) = True := fresh_map _ (fun x => by simp only [eU32, freshL, fresh, and_self]) xs

def eBool (x : Bool) : List PV := [.bool x]

theorem er_Bool (x : Bool) : eraseL (eBool x) = eBool x := rfl

theorem erR_Bool (xs : List Bool) : eraseR (xs.map eBool) = xs.map eBool := eraseR_map _ _ er_Bool xs

theorem frR_Bool (xs : List Bool) : freshR (xs.map eBool) = True := fresh_map _ (fun x => by simp only [eBool, freshL, fresh, and_self]) xs

def eString (x : ByteArray) : List PV := [.str x]

theorem er_String (x : ByteArray) : eraseL (eString x) = eString x := rfl

theorem erR_String (xs : List ByteArray) : eraseR (xs.map eString) = xs.map eString := eraseR_map _ _ er_String xs

theorem frR_String (xs : List ByteArray) : freshR (xs.map eString) = True := fresh_map _ (fun x => by simp only [eString, freshL, fresh, and_self]) xs

structure GMail where

  Uid : Int

  Flags : Int

  Text : ByteArray

def eMail (x : GMail) : List PV := [.int .i64 x.Uid, .int .i64 x.Flags, .str x.Text]

def eoMail (x : GMail) : List PV := [.int .i64 x.Uid, .int .i64 x.Flags, .str x.Text]

theorem er_Mail (x : GMail) : eraseL (eoMail x) = eMail x := by

  simp only [eoMail, eMail, eraseL, erase]

theorem erR_Mail (xs : List GMail) : eraseR (xs.map eoMail) = xs.map eMail := eraseR_map _ _ er_Mail xs

theorem frR_Mail (xs : List GMail) : freshR (xs.map eoMail) = True := fresh_map _ (fun x => by simp only [eoMail, freshL, fresh, and_self]) xs

structure GBox where

  Valid : Int

  User : ByteArray

  Name : ByteArray

  Next : Int

  Mails : List GMail

def eBox (x : GBox) : List PV := [.int .i64 x.Valid, .str x.User, .str x.Name, .int .i64 x.Next, .sl 3 (x.Mails.map eMail)]

def eoBox (x : GBox) : List PV := [.int .i64 x.Valid, .str x.User, .str x.Name, .int .i64 x.Next, .ow 3 (x.Mails.map eoMail)]

theorem er_Box (x : GBox) : eraseL (eoBox x) = eBox x := by

  simp only [eoBox, eBox, eraseL, erase, erR_Mail]

theorem erR_Box (xs : List GBox) : eraseR (xs.map eoBox) = xs.map eBox := eraseR_map _ _ er_Box xs

theorem frR_Box (xs : List GBox) : freshR (xs.map eoBox) = True := fresh_map _ (fun x => by simp only [eoBox, freshL, fresh, and_self, frR_Mail]) xs

structure GBring where

  State : Int

  From : ByteArray

  To : List ByteArray

  Data : List ByteArray

def eBring (x : GBring) : List PV := [.int .i64 x.State, .str x.From, .sl 1 (x.To.map eString), .sl 1 (x.Data.map eString)]

def eoBring (x : GBring) : List PV := [.int .i64 x.State, .str x.From, .ow 1 (x.To.map eString), .ow 1 (x.Data.map eString)]

theorem er_Bring (x : GBring) : eraseL (eoBring x) = eBring x := by

  simp only [eoBring, eBring, eraseL, erase, erR_String]

theorem erR_Bring (xs : List GBring) : eraseR (xs.map eoBring) = xs.map eBring := eraseR_map _ _ er_Bring xs

theorem frR_Bring (xs : List GBring) : freshR (xs.map eoBring) = True := fresh_map _ (fun x => by simp only [eoBring, freshL, fresh, and_self, frR_String]) xs

structure GFetch where

  State : Int

  User : ByteArray

  Mails : List GMail

  Gone : List Bool

def eFetch (x : GFetch) : List PV := [.int .i64 x.State, .str x.User, .sl 3 (x.Mails.map eMail), .sl 1 (x.Gone.map eBool)]

def eoFetch (x : GFetch) : List PV := [.int .i64 x.State, .str x.User, .ow 3 (x.Mails.map eoMail), .ow 1 (x.Gone.map eBool)]

theorem er_Fetch (x : GFetch) : eraseL (eoFetch x) = eFetch x := by

  simp only [eoFetch, eFetch, eraseL, erase, erR_Bool, erR_Mail]

theorem erR_Fetch (xs : List GFetch) : eraseR (xs.map eoFetch) = xs.map eFetch := eraseR_map _ _ er_Fetch xs

theorem frR_Fetch (xs : List GFetch) : freshR (xs.map eoFetch) = True := fresh_map _ (fun x => by simp only [eoFetch, freshL, fresh, and_self, frR_Bool, frR_Mail]) xs

structure GLook where

  State : Int

  User : ByteArray

  Box : ByteArray

  Valid : Int

  Uids : List Int

def eLook (x : GLook) : List PV := [.int .i64 x.State, .str x.User, .str x.Box, .int .i64 x.Valid, .sl 1 (x.Uids.map eInt)]

def eoLook (x : GLook) : List PV := [.int .i64 x.State, .str x.User, .str x.Box, .int .i64 x.Valid, .ow 1 (x.Uids.map eInt)]

theorem er_Look (x : GLook) : eraseL (eoLook x) = eLook x := by

  simp only [eoLook, eLook, eraseL, erase, erR_Int]

theorem erR_Look (xs : List GLook) : eraseR (xs.map eoLook) = xs.map eLook := eraseR_map _ _ er_Look xs

theorem frR_Look (xs : List GLook) : freshR (xs.map eoLook) = True := fresh_map _ (fun x => by simp only [eoLook, freshL, fresh, and_self, frR_Int]) xs

structure GSession where

  Kind : Int

  In : ByteArray

  Out : ByteArray

  Over : Bool

  Bring : GBring

  Fetch : GFetch

  Look : GLook

def eSession (x : GSession) : List PV := [.int .i64 x.Kind, .str x.In, .str x.Out, .bool x.Over, .int .i64 x.Bring.State, .str x.Bring.From, .sl 1 (x.Bring.To.map eString), .sl 1 (x.Bring.Data.map eString), .int .i64 x.Fetch.State, .str x.Fetch.User, .sl 3 (x.Fetch.Mails.map eMail), .sl 1 (x.Fetch.Gone.map eBool), .int .i64 x.Look.State, .str x.Look.User, .str x.Look.Box, .int .i64 x.Look.Valid, .sl 1 (x.Look.Uids.map eInt)]

def eoSession (x : GSession) : List PV := [.int .i64 x.Kind, .str x.In, .str x.Out, .bool x.Over, .int .i64 x.Bring.State, .str x.Bring.From, .ow 1 (x.Bring.To.map eString), .ow 1 (x.Bring.Data.map eString), .int .i64 x.Fetch.State, .str x.Fetch.User, .ow 3 (x.Fetch.Mails.map eoMail), .ow 1 (x.Fetch.Gone.map eBool), .int .i64 x.Look.State, .str x.Look.User, .str x.Look.Box, .int .i64 x.Look.Valid, .ow 1 (x.Look.Uids.map eInt)]

theorem er_Session (x : GSession) : eraseL (eoSession x) = eSession x := by

  simp only [eoSession, eSession, eraseL, erase, erR_Bool, erR_Int, erR_Mail, erR_String]

theorem erR_Session (xs : List GSession) : eraseR (xs.map eoSession) = xs.map eSession := eraseR_map _ _ er_Session xs

theorem frR_Session (xs : List GSession) : freshR (xs.map eoSession) = True := fresh_map _ (fun x => by simp only [eoSession, freshL, fresh, and_self, frR_Bool, frR_Int, frR_Mail, frR_String]) xs

def zsIntS (xs : List Int) : List Nat := [xs.length]

def zsBoolS (xs : List Bool) : List Nat := [xs.length]

def zsString (x : ByteArray) : List Nat := [x.size]

def zsStringS (xs : List ByteArray) : List Nat := xs.length :: xs.flatMap zsString

def zsMail (x : GMail) : List Nat := [x.Text.size] ++ ([])

def zsMailS (xs : List GMail) : List Nat := xs.length :: xs.flatMap zsMail

def zsBox (x : GBox) : List Nat := [x.User.size] ++ ([x.Name.size] ++ (zsMailS x.Mails ++ ([])))

def zsBoxS (xs : List GBox) : List Nat := xs.length :: xs.flatMap zsBox

def zsBring (x : GBring) : List Nat := [x.From.size] ++ (zsStringS x.To ++ (zsStringS x.Data ++ ([])))

def zsBringS (xs : List GBring) : List Nat := xs.length :: xs.flatMap zsBring

def zsFetch (x : GFetch) : List Nat := [x.User.size] ++ (zsMailS x.Mails ++ (zsBoolS x.Gone ++ ([])))

def zsFetchS (xs : List GFetch) : List Nat := xs.length :: xs.flatMap zsFetch

def zsLook (x : GLook) : List Nat := [x.User.size] ++ ([x.Box.size] ++ (zsIntS x.Uids ++ ([])))

def zsLookS (xs : List GLook) : List Nat := xs.length :: xs.flatMap zsLook

def zsSession (x : GSession) : List Nat := [x.In.size] ++ ([x.Out.size] ++ (zsBring x.Bring ++ (zsFetch x.Fetch ++ (zsLook x.Look ++ ([])))))

def zsSessionS (xs : List GSession) : List Nat := xs.length :: xs.flatMap zsSession
end Go.Av
