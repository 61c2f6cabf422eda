/- The globals that are read, errors.As and errors.Is: the texts of the new machine, under the elder name. -/
import Derived.Test.YtplejhefhnmabaaGreatDoorAmN
